/- Unions, concatenations and repetitions of machines: plain law of their paths. No program in sight. -/
import Derived.Test.YtmgpcnkmmgkjgaaPwP
namespace Gm
set_option linter.unusedSimpArgs false
set_option linter.unusedVariables false
theorem least_congr {m m' : Mach} {u v u' v' : List Int} (h : ∀ d, Acc m u v d ↔ Acc m' u' v' d) {r : Int} (hl : Least m u v r) : Least m' u' v' r := by
  rcases hl with ⟨h1, h2⟩ | ⟨n, h1, h2, h3⟩
  · exact .inl ⟨h1, fun d hd => h2 d ((h d).2 hd)⟩
  · exact .inr ⟨n, h1, (h n).1 h2, fun d hd => h3 d ((h d).2 hd)⟩
theorem wgt_congr {m m' : Mach} {u v u' v' : List Int} (h : ∀ d, Acc m u v d ↔ Acc m' u' v' d) : wgt m u v = wgt m' u' v' :=
  wgt_eq (least_congr (fun d => (h d).symm) (wgt_least m' u' v'))
/-- A machine that is within its own states. -/
structure Rng (m : Mach) : Prop where
  arc : ∀ a ∈ m.arcs, 0 ≤ a.f ∧ a.f < m.n ∧ 0 ≤ a.t ∧ a.t < m.n
  fin : ∀ x ∈ m.fins, 0 ≤ x.s ∧ x.s < m.n
  wt : (∀ a ∈ m.arcs, 0 ≤ a.w) ∧ ∀ x ∈ m.fins, 0 ≤ x.w
  n0 : 0 ≤ m.n
theorem Rng.acc {m : Mach} (h : Rng m) {u v : List Int} {d : Nat} : Acc m u v d ↔ 0 < m.n ∧ ∃ x ∈ m.fins, ∃ e, Pw m.arcs 0 x.s u v e ∧ d = e + x.w.toNat :=
  acc_pw (fun a ha => ⟨(h.arc a ha).1, (h.arc a ha).2.2.1⟩) (fun x hx => (h.fin x hx).1)
def shA (k : Int) (a : Arc) : Arc := ⟨a.f + k, a.t + k, a.i, a.o, a.w⟩
def shF (k : Int) (x : Fnl) : Fnl := ⟨x.s + k, x.w⟩
def eps (f t w : Int) : Arc := ⟨f, t, 0, 0, w⟩
theorem pw_shift {A B : List Arc} {k s t : Int} {u v : List Int} {d : Nat} (h : Pw A s t u v d) (hB : ∀ a ∈ A, shA k a ∈ B) : Pw B (s + k) (t + k) u v d := by
  induction h with
  | nil => exact .nil
  | snoc _ ha hf ih => exact Pw.snoc ih (hB _ ha) (by rw [shA]; simp only; omega)
/-- A path that begins in a part stays in it. -/
theorem pw_stay {A B : List Arc} {k s t : Int} {u v : List Int} {d : Nat} (I : Int → Prop) (h : Pw B (s + k) t u v d) (hs : I s) (hI : ∀ a ∈ A, I a.t) (hB : ∀ b ∈ B, ∀ x, I x → b.f = x + k → ∃ a ∈ A, b = shA k a) : ∃ t', t = t' + k ∧ I t' ∧ Pw A s t' u v d := by
  induction h with
  | nil => exact ⟨s, rfl, hs, .nil⟩
  | @snoc t u v d b hp hb hf ih =>
    obtain ⟨t', rfl, ht, hq⟩ := ih
    obtain ⟨a, ha, rfl⟩ := hB _ hb t' ht hf
    exact ⟨a.t, rfl, hI a ha, .snoc hq ha (by simp only [shA] at hf; omega)⟩
/-! Union -/
def uniArcs (a b : Mach) : List Arc := (if 0 < a.n then [eps 0 1 0] else []) ++ (if 0 < b.n then [eps 0 (1 + a.n) 0] else []) ++ a.arcs.map (shA 1) ++ b.arcs.map (shA (1 + a.n))
def uniFins (a b : Mach) : List Fnl := a.fins.map (shF 1) ++ b.fins.map (shF (1 + a.n))
theorem mem_uni {a b : Mach} {x : Arc} : x ∈ uniArcs a b ↔ (0 < a.n ∧ x = eps 0 1 0) ∨ (0 < b.n ∧ x = eps 0 (1 + a.n) 0) ∨ (∃ y ∈ a.arcs, x = shA 1 y) ∨ ∃ y ∈ b.arcs, x = shA (1 + a.n) y := by
  unfold uniArcs
  simp only [List.mem_append, List.mem_map]
  by_cases h1 : 0 < a.n <;> by_cases h2 : 0 < b.n <;> simp [h1, h2, eq_comm, or_assoc]
theorem rng_uni {a b : Mach} {A : List Arc} (ha : Rng a) (hb : Rng b) (hA : ∀ x, x ∈ A ↔ x ∈ uniArcs a b) : Rng ⟨1 + a.n + b.n, A, uniFins a b⟩ where
  arc := by
    intro x hx
    have := ha.n0; have := hb.n0
    rcases mem_uni.1 ((hA x).1 hx) with ⟨h, rfl⟩ | ⟨h, rfl⟩ | ⟨y, hy, rfl⟩ | ⟨y, hy, rfl⟩
    · simp only [eps]; omega
    · simp only [eps]; omega
    · have := ha.arc y hy; simp only [shA]; omega
    · have := hb.arc y hy; simp only [shA]; omega
  fin := by
    intro x hx
    have := ha.n0; have := hb.n0
    rcases List.mem_append.1 hx with hx | hx <;> obtain ⟨y, hy, rfl⟩ := List.mem_map.1 hx
    · have := ha.fin y hy; simp only [shF]; omega
    · have := hb.fin y hy; simp only [shF]; omega
  wt := by
    constructor
    · intro x hx
      rcases mem_uni.1 ((hA x).1 hx) with ⟨h, rfl⟩ | ⟨h, rfl⟩ | ⟨y, hy, rfl⟩ | ⟨y, hy, rfl⟩
      · simp only [eps]; omega
      · simp only [eps]; omega
      · exact ha.wt.1 y hy
      · exact hb.wt.1 y hy
    · intro x hx
      rcases List.mem_append.1 hx with hx | hx <;> obtain ⟨y, hy, rfl⟩ := List.mem_map.1 hx
      · exact ha.wt.2 y hy
      · exact hb.wt.2 y hy
  n0 := by have := ha.n0; have := hb.n0; simp only; omega
theorem acc_uni {a b : Mach} {A : List Arc} (ha : Rng a) (hb : Rng b) (hA : ∀ x, x ∈ A ↔ x ∈ uniArcs a b) {u v : List Int} {d : Nat} : Acc ⟨1 + a.n + b.n, A, uniFins a b⟩ u v d ↔ Acc a u v d ∨ Acc b u v d := by
  have an := ha.n0
  have bn := hb.n0
  rw [(rng_uni ha hb hA).acc, ha.acc, hb.acc]
  have stayA : ∀ {t : Int} {u v : List Int} {d : Nat}, 0 < a.n → Pw A 1 t u v d → ∃ t', t = t' + 1 ∧ (0 ≤ t' ∧ t' < a.n) ∧ Pw a.arcs 0 t' u v d := fun h0 hp =>
    pw_stay (k := 1) (s := 0) (fun x => 0 ≤ x ∧ x < a.n) (by simpa using hp) (by omega) (fun x hx => by have := ha.arc x hx; omega) (fun x hx y hy hf => by
      rcases mem_uni.1 ((hA x).1 hx) with ⟨h, rfl⟩ | ⟨h, rfl⟩ | ⟨z, hz, rfl⟩ | ⟨z, hz, rfl⟩
      · simp only [eps] at hf; omega
      · simp only [eps] at hf; omega
      · exact ⟨z, hz, rfl⟩
      · have := hb.arc z hz; simp only [shA] at hf; omega)
  have stayB : ∀ {t : Int} {u v : List Int} {d : Nat}, 0 < b.n → Pw A (1 + a.n) t u v d → ∃ t', t = t' + (1 + a.n) ∧ (0 ≤ t' ∧ t' < b.n) ∧ Pw b.arcs 0 t' u v d := fun h0 hp =>
    pw_stay (k := 1 + a.n) (s := 0) (fun x => 0 ≤ x ∧ x < b.n) (by simpa using hp) (by omega) (fun x hx => by have := hb.arc x hx; omega) (fun x hx y hy hf => by
      rcases mem_uni.1 ((hA x).1 hx) with ⟨h, rfl⟩ | ⟨h, rfl⟩ | ⟨z, hz, rfl⟩ | ⟨z, hz, rfl⟩
      · simp only [eps] at hf; omega
      · simp only [eps] at hf; omega
      · have := ha.arc z hz; simp only [shA] at hf; omega
      · exact ⟨z, hz, rfl⟩)
  constructor
  · rintro ⟨_, x, hx, e, hp, rfl⟩
    have hx1 : 1 ≤ x.s := by
      rcases List.mem_append.1 hx with hx | hx <;> obtain ⟨y, hy, rfl⟩ := List.mem_map.1 hx
      · have := ha.fin y hy; simp only [shF]; omega
      · have := hb.fin y hy; simp only [shF]; omega
    rcases hp.cons with ⟨h, _⟩ | ⟨c, hc, hf, u', v', d', hq, rfl, rfl, rfl⟩
    · omega
    · rcases mem_uni.1 ((hA c).1 hc) with ⟨h, rfl⟩ | ⟨h, rfl⟩ | ⟨z, hz, rfl⟩ | ⟨z, hz, rfl⟩
      · left
        obtain ⟨t', ht, hr, hw⟩ := stayA h hq
        refine ⟨h, ?_⟩
        rcases List.mem_append.1 hx with hx | hx <;> obtain ⟨y, hy, rfl⟩ := List.mem_map.1 hx
        · exact ⟨y, hy, d', hw.cast (by simp only [shF] at ht; omega) (by simp [eps, lab]) (by simp [eps, lab]) rfl, by simp [eps, shF]⟩
        · have := hb.fin y hy; simp only [shF] at ht; omega
      · right
        obtain ⟨t', ht, hr, hw⟩ := stayB h hq
        refine ⟨h, ?_⟩
        rcases List.mem_append.1 hx with hx | hx <;> obtain ⟨y, hy, rfl⟩ := List.mem_map.1 hx
        · have := ha.fin y hy; simp only [shF] at ht; omega
        · exact ⟨y, hy, d', hw.cast (by simp only [shF] at ht; omega) (by simp [eps, lab]) (by simp [eps, lab]) rfl, by simp [eps, shF]⟩
      · have := ha.arc z hz; simp only [shA] at hf; omega
      · have := hb.arc z hz; simp only [shA] at hf; omega
  · rintro (⟨h0, x, hx, e, hp, rfl⟩ | ⟨h0, x, hx, e, hp, rfl⟩)
    · have h1 := (Pw.one ((hA _).2 (mem_uni.2 (.inl ⟨h0, rfl⟩)))).trans ((pw_shift (k := 1) (B := A) hp (fun y hy => (hA _).2 (mem_uni.2 (.inr (.inr (.inl ⟨y, hy, rfl⟩)))))).cast rfl rfl rfl rfl)
      exact ⟨by show (0 : Int) < 1 + a.n + b.n; omega, shF 1 x, List.mem_append.2 (.inl (List.mem_map.2 ⟨x, hx, rfl⟩)), e, h1.cast rfl (by simp [eps, lab]) (by simp [eps, lab]) (by simp [eps]), rfl⟩
    · have h2 := pw_shift (k := 1 + a.n) (B := A) hp (fun y hy => (hA _).2 (mem_uni.2 (.inr (.inr (.inr ⟨y, hy, rfl⟩)))))
      rw [show (0 : Int) + (1 + a.n) = 1 + a.n by omega] at h2
      have h1 := (Pw.one ((hA _).2 (mem_uni.2 (.inr (.inl ⟨h0, rfl⟩))))).trans h2
      exact ⟨by show (0 : Int) < 1 + a.n + b.n; omega, shF (1 + a.n) x, List.mem_append.2 (.inr (List.mem_map.2 ⟨x, hx, rfl⟩)), e, h1.cast rfl (by simp [eps, lab]) (by simp [eps, lab]) (by simp [eps]), rfl⟩
/-! Concatenation -/
def catArcs (a b : Mach) : List Arc := a.arcs ++ b.arcs.map (shA a.n) ++ a.fins.map (fun x => eps x.s a.n x.w)
def catFins (a b : Mach) : List Fnl := b.fins.map (shF a.n)
theorem mem_cat {a b : Mach} {x : Arc} : x ∈ catArcs a b ↔ x ∈ a.arcs ∨ (∃ y ∈ b.arcs, x = shA a.n y) ∨ ∃ y ∈ a.fins, x = eps y.s a.n y.w := by
  unfold catArcs
  simp only [List.mem_append, List.mem_map, eq_comm, or_assoc]
theorem rng_cat {a b : Mach} {A : List Arc} (ha : Rng a) (hb : Rng b) (hb0 : 0 < b.n) (hA : ∀ x, x ∈ A ↔ x ∈ catArcs a b) : Rng ⟨a.n + b.n, A, catFins a b⟩ where
  arc := by
    intro x hx
    have := ha.n0; have := hb.n0
    rcases mem_cat.1 ((hA x).1 hx) with hy | ⟨y, hy, rfl⟩ | ⟨y, hy, rfl⟩
    · have := ha.arc x hy; simp only; omega
    · have := hb.arc y hy; simp only [shA]; omega
    · have := ha.fin y hy; simp only [eps]; omega
  fin := by
    intro x hx
    have := ha.n0
    obtain ⟨y, hy, rfl⟩ := List.mem_map.1 hx
    have := hb.fin y hy; simp only [shF]; omega
  wt := by
    constructor
    · intro x hx
      rcases mem_cat.1 ((hA x).1 hx) with hy | ⟨y, hy, rfl⟩ | ⟨y, hy, rfl⟩
      · exact ha.wt.1 x hy
      · exact hb.wt.1 y hy
      · exact ha.wt.2 y hy
    · intro x hx
      obtain ⟨y, hy, rfl⟩ := List.mem_map.1 hx
      exact hb.wt.2 y hy
  n0 := by have := ha.n0; have := hb.n0; simp only; omega
theorem acc_cat {a b : Mach} {A : List Arc} (ha : Rng a) (hb : Rng b) (ha0 : 0 < a.n) (hb0 : 0 < b.n) (hA : ∀ x, x ∈ A ↔ x ∈ catArcs a b) {u v : List Int} {d : Nat} :
    Acc ⟨a.n + b.n, A, catFins a b⟩ u v d ↔ ∃ u1 u2 v1 v2 d1 d2, u = u1 ++ u2 ∧ v = v1 ++ v2 ∧ d = d1 + d2 ∧ Acc a u1 v1 d1 ∧ Acc b u2 v2 d2 := by
  rw [(rng_cat ha hb hb0 hA).acc]
  simp only [ha.acc, hb.acc]
  have key : ∀ {t : Int} {u v : List Int} {d : Nat}, Pw A 0 t u v d → (t < a.n ∧ Pw a.arcs 0 t u v d) ∨ ∃ t', t = t' + a.n ∧ 0 ≤ t' ∧ ∃ x ∈ a.fins, ∃ u1 u2 v1 v2 d1 d2, Pw a.arcs 0 x.s u1 v1 d1 ∧ Pw b.arcs 0 t' u2 v2 d2 ∧ u = u1 ++ u2 ∧ v = v1 ++ v2 ∧ d = d1 + x.w.toNat + d2 := by
    intro t u v d h
    induction h with
    | nil => exact .inl ⟨ha0, .nil⟩
    | @snoc t u v d c hp hc hf ih =>
      rcases ih with ⟨h1, h2⟩ | ⟨t', rfl, ht, x, hx, u1, u2, v1, v2, d1, d2, h1, h2, rfl, rfl, rfl⟩
      · rcases mem_cat.1 ((hA c).1 hc) with hy | ⟨y, hy, rfl⟩ | ⟨y, hy, rfl⟩
        · exact .inl ⟨(ha.arc c hy).2.2.2, .snoc h2 hy hf⟩
        · have := hb.arc y hy; simp only [shA] at hf; omega
        · right
          exact ⟨0, by simp only [eps]; omega, Int.le_refl _, y, hy, u, [], v, [], d, 0, h2.cast (by simp only [eps] at hf; omega) rfl rfl rfl, .nil, by simp [eps, lab], by simp [eps, lab], by simp [eps]⟩
      · right
        rcases mem_cat.1 ((hA c).1 hc) with hy | ⟨y, hy, rfl⟩ | ⟨y, hy, rfl⟩
        · have := ha.arc c hy; omega
        · have := hb.arc y hy
          exact ⟨y.t, rfl, this.2.2.1, x, hx, u1, _, v1, _, d1, _, h1, .snoc h2 hy (by simp only [shA] at hf; omega), by simp [shA], by simp [shA], by simp [shA]; omega⟩
        · have := ha.fin y hy; simp only [eps] at hf; omega
  constructor
  · rintro ⟨_, x, hx, e, hp, rfl⟩
    obtain ⟨y, hy, rfl⟩ := List.mem_map.1 hx
    have hyr := hb.fin y hy
    rcases key hp with ⟨h1, h2⟩ | ⟨t', ht, ht0, x, hx, u1, u2, v1, v2, d1, d2, h1, h2, rfl, rfl, rfl⟩
    · simp only [shF] at h1; omega
    · exact ⟨u1, u2, v1, v2, d1 + x.w.toNat, d2 + y.w.toNat, rfl, rfl, by simp only [shF]; omega, ⟨ha0, x, hx, d1, h1, rfl⟩, ⟨hb0, y, hy, d2, h2.cast (by simp only [shF] at ht; omega) rfl rfl rfl, rfl⟩⟩
  · rintro ⟨u1, u2, v1, v2, d1, d2, rfl, rfl, rfl, ⟨_, x, hx, e, hp, rfl⟩, ⟨_, y, hy, e', hp', rfl⟩⟩
    have g1 := hp.mono (B := A) (fun z hz => (hA z).2 (mem_cat.2 (.inl hz)))
    have g2 := Pw.one (A := A) ((hA _).2 (mem_cat.2 (.inr (.inr ⟨x, hx, rfl⟩))))
    have g3 := pw_shift (k := a.n) (B := A) hp' (fun z hz => (hA _).2 (mem_cat.2 (.inr (.inl ⟨z, hz, rfl⟩))))
    rw [show (0 : Int) + a.n = a.n by omega] at g3
    have g4 := g1.trans (g2.trans g3)
    have := ha.n0; have := hb.n0
    exact ⟨by show (0 : Int) < a.n + b.n; omega, shF a.n y, List.mem_map.2 ⟨y, hy, rfl⟩, e + x.w.toNat + e', g4.cast rfl (by simp [eps, lab]) (by simp [eps, lab]) (by simp [eps]; omega), by simp only [shF]; omega⟩
/-! Repetition -/
def starArcs (m : Mach) : List Arc := (if 0 < m.n then [eps 0 1 0] else []) ++ m.arcs.map (shA 1) ++ m.fins.map (fun x => eps (1 + x.s) 0 x.w)
theorem mem_star {m : Mach} {x : Arc} : x ∈ starArcs m ↔ (0 < m.n ∧ x = eps 0 1 0) ∨ (∃ y ∈ m.arcs, x = shA 1 y) ∨ ∃ y ∈ m.fins, x = eps (1 + y.s) 0 y.w := by
  unfold starArcs
  simp only [List.mem_append, List.mem_map]
  by_cases h1 : 0 < m.n <;> simp [h1, eq_comm, or_assoc]
theorem rng_star {m : Mach} {A : List Arc} (hm : Rng m) (hA : ∀ x, x ∈ A ↔ x ∈ starArcs m) : Rng ⟨1 + m.n, A, [⟨0, 0⟩]⟩ where
  arc := by
    intro x hx
    have := hm.n0
    rcases mem_star.1 ((hA x).1 hx) with ⟨h, rfl⟩ | ⟨y, hy, rfl⟩ | ⟨y, hy, rfl⟩
    · simp only [eps]; omega
    · have := hm.arc y hy; simp only [shA]; omega
    · have := hm.fin y hy; simp only [eps]; omega
  fin := by
    intro x hx
    have := hm.n0
    simp only [List.mem_singleton] at hx
    subst hx; simp only; omega
  wt := by
    constructor
    · intro x hx
      rcases mem_star.1 ((hA x).1 hx) with ⟨h, rfl⟩ | ⟨y, hy, rfl⟩ | ⟨y, hy, rfl⟩
      · simp only [eps]; omega
      · exact hm.wt.1 y hy
      · exact hm.wt.2 y hy
    · intro x hx
      simp only [List.mem_singleton] at hx
      subst hx; simp
  n0 := by have := hm.n0; simp only; omega
/-- Pairs of a machine put together, any number of them. -/
inductive Rep (m : Mach) : List Int → List Int → Nat → Prop
  | nil : Rep m [] [] 0
  | snoc {u v u' v' : List Int} {d d' : Nat} : Rep m u v d → Acc m u' v' d' → Rep m (u ++ u') (v ++ v') (d + d')
theorem acc_star {m : Mach} {A : List Arc} (hm : Rng m) (hA : ∀ x, x ∈ A ↔ x ∈ starArcs m) {u v : List Int} {d : Nat} : Acc ⟨1 + m.n, A, [⟨0, 0⟩]⟩ u v d ↔ Rep m u v d := by
  have mn := hm.n0
  rw [(rng_star hm hA).acc]
  have key : ∀ {t : Int} {u v : List Int} {d : Nat}, Pw A 0 t u v d → (t = 0 ∧ Rep m u v d) ∨ ∃ t', t = t' + 1 ∧ 0 ≤ t' ∧ ∃ u1 u2 v1 v2 d1 d2, 0 < m.n ∧ Rep m u1 v1 d1 ∧ Pw m.arcs 0 t' u2 v2 d2 ∧ u = u1 ++ u2 ∧ v = v1 ++ v2 ∧ d = d1 + d2 := by
    intro t u v d h
    induction h with
    | nil => exact .inl ⟨rfl, .nil⟩
    | @snoc t u v d c hp hc hf ih =>
      rcases ih with ⟨rfl, h2⟩ | ⟨t', rfl, ht, u1, u2, v1, v2, d1, d2, h0, h1, h2, rfl, rfl, rfl⟩
      · rcases mem_star.1 ((hA c).1 hc) with ⟨h, rfl⟩ | ⟨y, hy, rfl⟩ | ⟨y, hy, rfl⟩
        · right
          exact ⟨0, by simp only [eps]; omega, Int.le_refl _, u, [], v, [], d, 0, h, h2, .nil, by simp [eps, lab], by simp [eps, lab], by simp [eps]⟩
        · have := hm.arc y hy; simp only [shA] at hf; omega
        · have := hm.fin y hy; simp only [eps] at hf; omega
      · rcases mem_star.1 ((hA c).1 hc) with ⟨h, rfl⟩ | ⟨y, hy, rfl⟩ | ⟨y, hy, rfl⟩
        · simp only [eps] at hf; omega
        · right
          exact ⟨y.t, rfl, (hm.arc y hy).2.2.1, u1, _, v1, _, d1, _, h0, h1, .snoc h2 hy (by simp only [shA] at hf; omega), by simp [shA], by simp [shA], by simp [shA]; omega⟩
        · left
          refine ⟨rfl, ?_⟩
          have h3 : Acc m u2 v2 (d2 + y.w.toNat) := hm.acc.2 ⟨h0, y, hy, d2, h2.cast (by simp only [eps] at hf; omega) rfl rfl rfl, rfl⟩
          have h4 := Rep.snoc h1 h3
          simpa [eps, lab, Nat.add_assoc] using h4
  constructor
  · rintro ⟨_, x, hx, e, hp, rfl⟩
    simp only [List.mem_singleton] at hx
    subst hx
    rcases key hp with ⟨_, h⟩ | ⟨t', ht, h0, _⟩
    · simpa using h
    · simp only at ht; omega
  · intro h
    refine ⟨by show (0 : Int) < 1 + m.n; omega, ⟨0, 0⟩, by simp, d, ?_, by simp⟩
    show Pw A 0 0 u v d
    induction h with
    | nil => exact .nil
    | @snoc u v u' v' d d' h1 h2 ih =>
      obtain ⟨h0, x, hx, e, hp, rfl⟩ := hm.acc.1 h2
      have g1 := Pw.one (A := A) ((hA _).2 (mem_star.2 (.inl ⟨h0, rfl⟩)))
      have g2 := pw_shift (k := 1) (B := A) hp (fun z hz => (hA _).2 (mem_star.2 (.inr (.inl ⟨z, hz, rfl⟩))))
      have g3 := Pw.one (A := A) ((hA _).2 (mem_star.2 (.inr (.inr ⟨x, hx, rfl⟩))))
      have g2' : Pw A 1 (1 + x.s) u' v' e := g2.cast (by omega) rfl rfl rfl
      have g4 := ih.trans (g1.trans (g2'.trans g3))
      exact g4.cast rfl (by simp [eps, lab]) (by simp [eps, lab]) (by simp [eps])
end Gm
