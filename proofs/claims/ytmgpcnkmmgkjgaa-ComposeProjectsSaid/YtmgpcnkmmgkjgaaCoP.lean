/- The composition of two machines, over couples of states: plain law. No program in sight. -/
import Derived.Test.YtmgpcnkmmgkjgaaWtT
import Derived.Test.YtmgpcnkmmgkjgaaSrP
namespace Gm
set_option linter.unusedSimpArgs false
set_option linter.unusedVariables false
/-- The couple p, q as one number. -/
def enc (n p q : Int) : Int := p * n + q
theorem enc_div {n p q : Int} (h0 : 0 ≤ q) (h1 : q < n) : enc n p q / n = p := by
  unfold enc
  rw [Int.add_comm, Int.add_mul_ediv_right _ _ (by omega), Int.ediv_eq_zero_of_lt h0 h1, Int.zero_add]
theorem enc_mod {n p q : Int} (h0 : 0 ≤ q) (h1 : q < n) : enc n p q % n = q := by
  unfold enc
  rw [Int.add_comm, Int.add_mul_emod_self_right, Int.emod_eq_of_lt h0 h1]
theorem enc_inj {n p q p' q' : Int} (h0 : 0 ≤ q) (h1 : q < n) (h0' : 0 ≤ q') (h1' : q' < n) (h : enc n p q = enc n p' q') : p = p' ∧ q = q' :=
  ⟨by rw [← enc_div (p := p) h0 h1, h, enc_div h0' h1'], by rw [← enc_mod (p := p) h0 h1, h, enc_mod h0' h1']⟩
theorem enc_rng {m n p q : Int} (hp : 0 ≤ p) (hm : p < m) (h0 : 0 ≤ q) (h1 : q < n) : 0 ≤ enc n p q ∧ enc n p q < m * n := by
  unfold enc
  have h2 : 0 ≤ p * n := Int.mul_nonneg hp (by omega)
  have h3 : (p + 1) * n ≤ m * n := Int.mul_le_mul_of_nonneg_right (by omega) (by omega)
  have h4 : (p + 1) * n = p * n + n := by rw [Int.add_mul, Int.one_mul]
  omega
theorem enc_lt {n p q p' q' : Int} (h0 : 0 ≤ q) (h1 : q < n) (h0' : 0 ≤ q') (h1' : q' < n) : enc n p q < enc n p' q' ↔ p < p' ∨ (p = p' ∧ q < q') := by
  unfold enc
  constructor
  · intro h
    rcases Int.lt_trichotomy p p' with h2 | h2 | h2
    · exact .inl h2
    · subst h2; exact .inr ⟨rfl, by omega⟩
    · have h3 : (p' + 1) * n ≤ p * n := Int.mul_le_mul_of_nonneg_right (by omega) (by omega)
      have h4 : (p' + 1) * n = p' * n + n := by rw [Int.add_mul, Int.one_mul]
      omega
  · rintro (h2 | ⟨rfl, h2⟩)
    · have h3 : (p + 1) * n ≤ p' * n := Int.mul_le_mul_of_nonneg_right (by omega) (by omega)
      have h4 : (p + 1) * n = p * n + n := by rw [Int.add_mul, Int.one_mul]
      omega
    · omega
theorem enc_dec {n s : Int} (hn : 0 < n) : enc n (s / n) (s % n) = s := by
  unfold enc
  rw [Int.mul_comm]; exact Int.mul_ediv_add_emod s n
def prodA (nb : Int) (x y : Arc) : Arc := ⟨enc nb x.f y.f, enc nb x.t y.t, x.i, y.o, x.w + y.w⟩
def prodL (nb : Int) (x : Arc) (q : Int) : Arc := ⟨enc nb x.f q, enc nb x.t q, x.i, 0, x.w⟩
def prodR (nb : Int) (y : Arc) (p : Int) : Arc := ⟨enc nb p y.f, enc nb p y.t, 0, y.o, y.w⟩
def prodX (a b : Mach) (x : Arc) : List Arc := if x.o = 0 then (List.range b.n.toNat).map (fun q : Nat => prodL b.n x (q : Int)) else (b.arcs.filter fun y => decide (y.i = x.o)).map (prodA b.n x)
def prodY (a b : Mach) (y : Arc) : List Arc := if y.i = 0 then (List.range a.n.toNat).map (fun p : Nat => prodR b.n y (p : Int)) else []
/-- The arcs of the composition, all couples of states. -/
def prodArcs (a b : Mach) : List Arc := a.arcs.flatMap (prodX a b) ++ b.arcs.flatMap (prodY a b)
def prodFins (a b : Mach) : List Fnl := a.fins.flatMap fun x => b.fins.map fun y => ⟨enc b.n x.s y.s, x.w + y.w⟩
def prodM (a b : Mach) : Mach := ⟨a.n * b.n, prodArcs a b, prodFins a b⟩
theorem mem_prod {a b : Mach} {z : Arc} : z ∈ prodArcs a b ↔ (∃ x ∈ a.arcs, x.o = 0 ∧ ∃ q : Nat, q < b.n.toNat ∧ z = prodL b.n x q) ∨ (∃ x ∈ a.arcs, x.o ≠ 0 ∧ ∃ y ∈ b.arcs, y.i = x.o ∧ z = prodA b.n x y) ∨ (∃ y ∈ b.arcs, y.i = 0 ∧ ∃ p : Nat, p < a.n.toNat ∧ z = prodR b.n y p) := by
  unfold prodArcs
  rw [List.mem_append, List.mem_flatMap, List.mem_flatMap]
  constructor
  · rintro (⟨x, hx, hz⟩ | ⟨y, hy, hz⟩)
    · unfold prodX at hz
      by_cases h : x.o = 0
      · rw [if_pos h] at hz
        obtain ⟨q, hq, rfl⟩ := List.mem_map.1 hz
        exact .inl ⟨x, hx, h, q, List.mem_range.1 hq, rfl⟩
      · rw [if_neg h] at hz
        obtain ⟨y, hy, rfl⟩ := List.mem_map.1 hz
        obtain ⟨hy1, hy2⟩ := List.mem_filter.1 hy
        exact .inr (.inl ⟨x, hx, h, y, hy1, of_decide_eq_true hy2, rfl⟩)
    · unfold prodY at hz
      by_cases h : y.i = 0
      · rw [if_pos h] at hz
        obtain ⟨p, hp, rfl⟩ := List.mem_map.1 hz
        exact .inr (.inr ⟨y, hy, h, p, List.mem_range.1 hp, rfl⟩)
      · rw [if_neg h] at hz; cases hz
  · rintro (⟨x, hx, h, q, hq, rfl⟩ | ⟨x, hx, h, y, hy, e, rfl⟩ | ⟨y, hy, h, p, hp, rfl⟩)
    · exact .inl ⟨x, hx, by unfold prodX; rw [if_pos h]; exact List.mem_map.2 ⟨q, List.mem_range.2 hq, rfl⟩⟩
    · exact .inl ⟨x, hx, by unfold prodX; rw [if_neg h]; exact List.mem_map.2 ⟨y, List.mem_filter.2 ⟨hy, decide_eq_true e⟩, rfl⟩⟩
    · exact .inr ⟨y, hy, by unfold prodY; rw [if_pos h]; exact List.mem_map.2 ⟨p, List.mem_range.2 hp, rfl⟩⟩
theorem mem_prodF {a b : Mach} {z : Fnl} : z ∈ prodFins a b ↔ ∃ x ∈ a.fins, ∃ y ∈ b.fins, z = ⟨enc b.n x.s y.s, x.w + y.w⟩ := by
  unfold prodFins
  rw [List.mem_flatMap]
  constructor
  · rintro ⟨x, hx, hz⟩
    obtain ⟨y, hy, rfl⟩ := List.mem_map.1 hz
    exact ⟨x, hx, y, hy, rfl⟩
  · rintro ⟨x, hx, y, hy, rfl⟩
    exact ⟨x, hx, List.mem_map.2 ⟨y, hy, rfl⟩⟩
theorem rng_prod {a b : Mach} (ha : Rng a) (hb : Rng b) : Rng (prodM a b) where
  arc := fun z hz => by
    rcases mem_prod.1 hz with ⟨x, hx, h, q, hq, rfl⟩ | ⟨x, hx, h, y, hy, e, rfl⟩ | ⟨y, hy, h, p, hp, rfl⟩
    · have h1 := ha.arc x hx
      have h2 := enc_rng (m := a.n) (n := b.n) (p := x.f) (q := q) (by omega) (by omega) (by omega) (by omega)
      have h3 := enc_rng (m := a.n) (n := b.n) (p := x.t) (q := q) (by omega) (by omega) (by omega) (by omega)
      exact ⟨h2.1, h2.2, h3.1, h3.2⟩
    · have h1 := ha.arc x hx
      have h1' := hb.arc y hy
      have h2 := enc_rng (m := a.n) (n := b.n) (p := x.f) (q := y.f) (by omega) (by omega) (by omega) (by omega)
      have h3 := enc_rng (m := a.n) (n := b.n) (p := x.t) (q := y.t) (by omega) (by omega) (by omega) (by omega)
      exact ⟨h2.1, h2.2, h3.1, h3.2⟩
    · have h1' := hb.arc y hy
      have h2 := enc_rng (m := a.n) (n := b.n) (p := p) (q := y.f) (by omega) (by omega) (by omega) (by omega)
      have h3 := enc_rng (m := a.n) (n := b.n) (p := p) (q := y.t) (by omega) (by omega) (by omega) (by omega)
      exact ⟨h2.1, h2.2, h3.1, h3.2⟩
  fin := fun z hz => by
    obtain ⟨x, hx, y, hy, rfl⟩ := mem_prodF.1 hz
    have h1 := ha.fin x hx
    have h2 := hb.fin y hy
    exact enc_rng (by omega) (by omega) (by omega) (by omega)
  wt := ⟨fun z hz => by
    rcases mem_prod.1 hz with ⟨x, hx, h, q, hq, rfl⟩ | ⟨x, hx, h, y, hy, e, rfl⟩ | ⟨y, hy, h, p, hp, rfl⟩
    · exact ha.wt.1 x hx
    · have := ha.wt.1 x hx
      have := hb.wt.1 y hy
      show 0 ≤ x.w + y.w; omega
    · exact hb.wt.1 y hy, fun z hz => by
    obtain ⟨x, hx, y, hy, rfl⟩ := mem_prodF.1 hz
    have := ha.wt.2 x hx
    have := hb.wt.2 y hy
    show 0 ≤ x.w + y.w; omega⟩
  n0 := Int.mul_nonneg ha.n0 hb.n0
theorem pw_rng {m : Mach} (hm : Rng m) (h0 : 0 < m.n) {t : Int} {u v : List Int} {d : Nat} (h : Pw m.arcs 0 t u v d) : 0 ≤ t ∧ t < m.n := by
  cases h with
  | nil => exact ⟨Int.le_refl _, h0⟩
  | snoc _ ha _ => exact ⟨(hm.arc _ ha).2.2.1, (hm.arc _ ha).2.2.2⟩
section
variable {a b : Mach} (ha : Rng a) (hb : Rng b) (ha0 : 0 < a.n) (hb0 : 0 < b.n)
include ha hb ha0 hb0
/-- A path of the composition is a path of each machine, with one word between. -/
theorem prod_pw {t : Int} {u v : List Int} {d : Nat} (h : Pw (prodArcs a b) 0 t u v d) : ∃ p q w d1 d2, 0 ≤ p ∧ p < a.n ∧ 0 ≤ q ∧ q < b.n ∧ t = enc b.n p q ∧ Pw a.arcs 0 p u w d1 ∧ Pw b.arcs 0 q w v d2 ∧ d = d1 + d2 := by
  induction h with
  | nil => exact ⟨0, 0, [], 0, 0, Int.le_refl _, ha0, Int.le_refl _, hb0, by simp [enc], .nil, .nil, rfl⟩
  | @snoc t u v d z hp hz hf ih =>
    obtain ⟨p, q, w, d1, d2, hp0, hp1, hq0, hq1, rfl, h1, h2, rfl⟩ := ih
    rcases mem_prod.1 hz with ⟨x, hx, h, q', hq', rfl⟩ | ⟨x, hx, h, y, hy, e, rfl⟩ | ⟨y, hy, h, p', hp', rfl⟩
    · obtain ⟨e1, e2⟩ := enc_inj (by omega) (by omega) hq0 hq1 hf
      have hr := ha.arc x hx
      refine ⟨x.t, q, w, d1 + x.w.toNat, d2, by omega, by omega, hq0, hq1, by rw [← e2]; rfl, (Pw.snoc h1 hx e1).cast rfl rfl (by rw [h]; simp [lab]) rfl, h2.cast rfl rfl (by simp [prodL, lab]) rfl, ?_⟩
      show d1 + d2 + x.w.toNat = _; omega
    · have hr := ha.arc x hx
      have hr' := hb.arc y hy
      obtain ⟨e1, e2⟩ := enc_inj (by omega) (by omega) hq0 hq1 hf
      have hw1 := ha.wt.1 x hx
      have hw2 := hb.wt.1 y hy
      refine ⟨x.t, y.t, w ++ lab x.o, d1 + x.w.toNat, d2 + y.w.toNat, by omega, by omega, by omega, by omega, rfl, Pw.snoc h1 hx e1, (Pw.snoc h2 hy e2).cast rfl (by rw [e]) rfl rfl, ?_⟩
      show d1 + d2 + (x.w + y.w).toNat = _; omega
    · have hr' := hb.arc y hy
      obtain ⟨e1, e2⟩ := enc_inj (by omega) (by omega) hq0 hq1 hf
      refine ⟨p, y.t, w, d1, d2 + y.w.toNat, hp0, hp1, by omega, by omega, by rw [← e1]; rfl, h1.cast rfl (by simp [prodR, lab]) rfl rfl, (Pw.snoc h2 hy e2).cast rfl (by rw [h]; simp [lab]) rfl rfl, ?_⟩
      show d1 + d2 + y.w.toNat = _; omega
theorem pw_prod {p : Int} {u w : List Int} {d1 : Nat} (h1 : Pw a.arcs 0 p u w d1) : ∀ {q : Int} {v : List Int} {d2 : Nat}, Pw b.arcs 0 q w v d2 → Pw (prodArcs a b) 0 (enc b.n p q) u v (d1 + d2) := by
  have epsR : ∀ {p q : Int} {u v : List Int} {d : Nat} {y : Arc}, 0 ≤ p → p < a.n → Pw (prodArcs a b) 0 (enc b.n p q) u v d → y ∈ b.arcs → y.f = q → y.i = 0 → Pw (prodArcs a b) 0 (enc b.n p y.t) u (v ++ lab y.o) (d + y.w.toNat) := by
    intro p q u v d y hp0 hp1 h hy hf hi
    have hz : prodR b.n y p ∈ prodArcs a b := mem_prod.2 (.inr (.inr ⟨y, hy, hi, p.toNat, by omega, by rw [show ((p.toNat : Nat) : Int) = p by omega]⟩))
    exact (Pw.snoc h hz (by show enc b.n p y.f = _; rw [hf])).cast rfl (by simp [prodR, lab]) rfl rfl
  induction h1 with
  | nil =>
    intro q v d2 h2
    have key : ∀ {q : Int} {w v : List Int} {d2 : Nat}, Pw b.arcs 0 q w v d2 → w = [] → Pw (prodArcs a b) 0 (enc b.n 0 q) [] v d2 := by
      intro q w v d2 h2
      induction h2 with
      | nil => intro _; exact Pw.nil.cast (by simp [enc]) rfl rfl rfl
      | @snoc q w v d y hp hy hf ih =>
        intro e
        obtain ⟨e1, e2⟩ := List.append_eq_nil_iff.1 e
        have hi : y.i = 0 := by
          unfold lab at e2
          by_cases h : y.i = 0
          · exact h
          · rw [if_neg h] at e2; cases e2
        exact epsR (Int.le_refl _) ha0 (ih e1) hy hf hi
    exact (key h2 rfl).cast rfl rfl rfl (by omega)
  | @snoc p u w d1 x h1 hx hf ih =>
    have hr := ha.arc x hx
    intro q v d2 h2
    by_cases ho : x.o = 0
    · have h2' := h2.cast rfl (show w ++ lab x.o = w by rw [ho]; simp [lab]) rfl rfl
      have hq := pw_rng hb hb0 h2'
      have hz : prodL b.n x q ∈ prodArcs a b := mem_prod.2 (.inl ⟨x, hx, ho, q.toNat, by omega, by rw [show ((q.toNat : Nat) : Int) = q by omega]⟩)
      exact (Pw.snoc (ih h2') hz (by show enc b.n x.f q = _; rw [hf])).cast rfl rfl (by simp [prodL, lab]) (by show d1 + d2 + x.w.toNat = _; omega)
    · have key : ∀ {q : Int} {w2 v : List Int} {d2 : Nat}, Pw b.arcs 0 q w2 v d2 → w2 = w ++ [x.o] → Pw (prodArcs a b) 0 (enc b.n x.t q) (u ++ lab x.i) v (d1 + x.w.toNat + d2) := by
        intro q w2 v d2 h2
        induction h2 with
        | nil => intro e; simp at e
        | @snoc q w2 v d y hp hy hfy ih2 =>
          intro e
          by_cases hi : y.i = 0
          · have e1 : w2 = w ++ [x.o] := by rw [hi] at e; simpa [lab] using e
            exact (epsR hr.2.2.1 hr.2.2.2 (ih2 e1) hy hfy hi).cast rfl rfl rfl (by omega)
          · rw [lab, if_neg hi] at e
            obtain ⟨e1, e2⟩ := List.append_inj' e rfl
            have e3 : y.i = x.o := by injection e2
            have hz : prodA b.n x y ∈ prodArcs a b := mem_prod.2 (.inr (.inl ⟨x, hx, ho, y, hy, e3, rfl⟩))
            have hw1 := ha.wt.1 x hx
            have hw2 := hb.wt.1 y hy
            exact (Pw.snoc (ih (hp.cast rfl e1 rfl rfl)) hz (by show enc b.n x.f y.f = _; rw [hf, hfy])).cast rfl rfl rfl (by show d1 + d + (x.w + y.w).toNat = _; omega)
      exact key h2 (by rw [lab, if_neg ho])
end
/-- What two machines accept one behind the other. -/
def CompS (a b : Mach) (u v : List Int) (d : Nat) : Prop := ∃ w d1 d2, d = d1 + d2 ∧ Acc a u w d1 ∧ Acc b w v d2
theorem acc_prod {a b : Mach} (ha : Rng a) (hb : Rng b) {u v : List Int} {d : Nat} : Acc (prodM a b) u v d ↔ CompS a b u v d := by
  rw [(rng_prod ha hb).acc]
  unfold CompS
  constructor
  · rintro ⟨h0, z, hz, e, he, rfl⟩
    have hn : 0 < a.n ∧ 0 < b.n := by
      have h0 : 0 < a.n * b.n := h0
      have := ha.n0
      have := hb.n0
      constructor
      · rcases Int.lt_or_le 0 a.n with h | h
        · exact h
        · rw [show a.n = 0 by omega, Int.zero_mul] at h0; omega
      · rcases Int.lt_or_le 0 b.n with h | h
        · exact h
        · rw [show b.n = 0 by omega, Int.mul_zero] at h0; omega
    obtain ⟨x, hx, y, hy, rfl⟩ := mem_prodF.1 hz
    obtain ⟨p, q, w, d1, d2, hp0, hp1, hq0, hq1, e1, h1, h2, rfl⟩ := prod_pw ha hb hn.1 hn.2 he
    have rx := ha.fin x hx
    have ry := hb.fin y hy
    obtain ⟨rfl, rfl⟩ := enc_inj ry.1 ry.2 hq0 hq1 e1
    have wx := ha.wt.2 x hx
    have wy := hb.wt.2 y hy
    exact ⟨w, d1 + x.w.toNat, d2 + y.w.toNat, by show d1 + d2 + (x.w + y.w).toNat = _; omega, ha.acc.2 ⟨hn.1, x, hx, d1, h1, rfl⟩, hb.acc.2 ⟨hn.2, y, hy, d2, h2, rfl⟩⟩
  · rintro ⟨w, d1, d2, rfl, h1, h2⟩
    obtain ⟨ha0, x, hx, e1, p1, rfl⟩ := ha.acc.1 h1
    obtain ⟨hb0, y, hy, e2, p2, rfl⟩ := hb.acc.1 h2
    have wx := ha.wt.2 x hx
    have wy := hb.wt.2 y hy
    exact ⟨Int.mul_pos ha0 hb0, ⟨enc b.n x.s y.s, x.w + y.w⟩, mem_prodF.2 ⟨x, hx, y, hy, rfl⟩, e1 + e2, pw_prod ha hb ha0 hb0 p1 p2, by show _ = e1 + e2 + (x.w + y.w).toNat; omega⟩
/-! Trimming, at a machine that need not be in order. -/
section
variable {m : Mach} (h : Rng m)
include h
theorem RS_rngF' {x : Int} (h0 : 0 < m.n) (hr : RS false m.arcs [0] x) : 0 ≤ x ∧ x < m.n := by
  induction hr with
  | base hs => simp at hs; omega
  | @step s t a _ ha hk hv _ =>
    have := h.arc a ha
    have hv' : a.t = t := hv
    omega
theorem RS_rngB' {x : Int} (hr : RS true m.arcs (finStates m.fins) x) : 0 ≤ x ∧ x < m.n := by
  induction hr with
  | base hs =>
    obtain ⟨y, hy, rfl⟩ := List.mem_map.1 hs
    exact h.fin y hy
  | @step s t a _ ha hk hv _ =>
    have := h.arc a ha
    have hv' : a.f = t := hv
    omega
theorem pw_part' {t : Int} {u v : List Int} {d : Nat} (hp : Pw m.arcs 0 t u v d) : RS true m.arcs (finStates m.fins) t → Pw (partM m (keepK m)).arcs 0 (cntK (keepK m) t.toNat : Int) u v d := by
  induction hp with
  | nil => intro _; exact Pw.nil.cast (by simp [cntK]) rfl rfl rfl
  | @snoc t u v d a hp ha hf ih =>
    intro ht
    have hb : RS true m.arcs (finStates m.fins) t := .step (a := a) ht ha rfl hf
    have hft : RS false m.arcs [0] t := pw_RSf hp (.base (by simp))
    have hsr := RS_rngB' h hb
    have htr := RS_rngB' h ht
    have k1 := keep_of hsr.1 hft hb
    have k2 := keep_of htr.1 (.step (a := a) hft ha hf rfl) ht
    exact Pw.snoc (ih hb) (mem_part ha (by rw [hf]; exact k1) k2) (by show ((cntK (keepK m) a.f.toNat : Nat) : Int) = _; rw [hf])
theorem part_pw' (hk : keepK m 0 = true) {t : Int} {u v : List Int} {d : Nat} (hp : Pw (partM m (keepK m)).arcs 0 t u v d) : ∃ s, 0 ≤ s ∧ keepK m s.toNat = true ∧ t = (cntK (keepK m) s.toNat : Int) ∧ Pw m.arcs 0 s u v d := by
  induction hp with
  | nil => exact ⟨0, Int.le_refl _, hk, by simp [cntK], .nil⟩
  | @snoc t u v d a hp ha hf ih =>
    obtain ⟨s, hs, ks, rfl, hq⟩ := ih
    obtain ⟨b, hb, rfl⟩ := List.mem_map.1 ha
    obtain ⟨hb1, hb2⟩ := List.mem_filter.1 hb
    simp only [Bool.and_eq_true] at hb2
    have hr := h.arc b hb1
    have e : b.f = s := num_inj hr.1 hs hb2.1 ks hf
    exact ⟨b.t, hr.2.2.1, hb2.2, rfl, .snoc hq hb1 e⟩
theorem rng_part : Rng (partM m (keepK m)) where
  arc := fun a ha => by
    obtain ⟨b, hb, rfl⟩ := List.mem_map.1 ha
    obtain ⟨hb1, hb2⟩ := List.mem_filter.1 hb
    simp only [Bool.and_eq_true] at hb2
    have hr := h.arc b hb1
    have c1 := cntK_strict (K := keepK m) (show b.f.toNat < m.n.toNat by omega) hb2.1
    have c2 := cntK_strict (K := keepK m) (show b.t.toNat < m.n.toNat by omega) hb2.2
    show 0 ≤ ((cntK (keepK m) b.f.toNat : Nat) : Int) ∧ ((cntK (keepK m) b.f.toNat : Nat) : Int) < ((cntK (keepK m) m.n.toNat : Nat) : Int) ∧ 0 ≤ ((cntK (keepK m) b.t.toNat : Nat) : Int) ∧ ((cntK (keepK m) b.t.toNat : Nat) : Int) < ((cntK (keepK m) m.n.toNat : Nat) : Int)
    omega
  fin := fun x hx => by
    obtain ⟨y, hy, rfl⟩ := List.mem_map.1 hx
    obtain ⟨hy1, hy2⟩ := List.mem_filter.1 hy
    have hr := h.fin y hy1
    have c1 := cntK_strict (K := keepK m) (show y.s.toNat < m.n.toNat by omega) hy2
    show 0 ≤ ((cntK (keepK m) y.s.toNat : Nat) : Int) ∧ ((cntK (keepK m) y.s.toNat : Nat) : Int) < ((cntK (keepK m) m.n.toNat : Nat) : Int)
    omega
  wt := ⟨fun a ha => by
    obtain ⟨b, hb, rfl⟩ := List.mem_map.1 ha
    exact h.wt.1 b (List.mem_filter.1 hb).1, fun x hx => by
    obtain ⟨y, hy, rfl⟩ := List.mem_map.1 hx
    exact h.wt.2 y (List.mem_filter.1 hy).1⟩
  n0 := by show 0 ≤ ((cntK (keepK m) m.n.toNat : Nat) : Int); omega
theorem rng_trim : Rng (trimOf m) := by
  unfold trimOf
  split
  · exact ⟨by simp [emptyM], by simp [emptyM], by simp [emptyM], by simp [emptyM]⟩
  · exact rng_part h
theorem acc_trim' {u v : List Int} {d : Nat} : Acc (trimOf m) u v d ↔ Acc m u v d := by
  rw [(rng_trim h).acc, h.acc]
  unfold trimOf
  by_cases hn : m.n = 0
  · rw [if_pos (.inl hn)]
    simp [emptyM, hn]
  · have h0' : 0 < m.n := by have := h.n0; omega
    by_cases hk : keepK m 0 = true
    · rw [if_neg (by simp [hn, hk])]
      constructor
      · rintro ⟨h1, x, hx, e, he, rfl⟩
        obtain ⟨y, hy, rfl⟩ := List.mem_map.1 hx
        obtain ⟨hy1, hy2⟩ := List.mem_filter.1 hy
        obtain ⟨s, hs, ks, hst, hq⟩ := part_pw' h hk he
        have hr := h.fin y hy1
        have e1 : y.s = s := num_inj hr.1 hs hy2 ks hst
        exact ⟨h0', y, hy1, e, by rw [e1]; exact hq, rfl⟩
      · rintro ⟨h1, x, hx, e, he, rfl⟩
        have hb : RS true m.arcs (finStates m.fins) x.s := .base (List.mem_map.2 ⟨x, hx, rfl⟩)
        have hr := h.fin x hx
        have kx := keep_of hr.1 (pw_RSf he (.base (by simp))) hb
        have hc := cntK_strict (K := keepK m) (show x.s.toNat < m.n.toNat by omega) kx
        refine ⟨?_, partFin (keepK m) x, List.mem_map.2 ⟨x, List.mem_filter.2 ⟨hx, kx⟩, rfl⟩, e, pw_part' h he hb, rfl⟩
        show 0 < ((cntK (keepK m) m.n.toNat : Nat) : Int); omega
    · have hk' : keepK m 0 = false := by simpa using hk
      rw [if_pos (.inr hk')]
      constructor
      · rintro ⟨h1, _⟩; exact absurd h1 (by simp [emptyM])
      · rintro ⟨_, x, hx, e, he, rfl⟩
        exfalso
        have hb : RS true m.arcs (finStates m.fins) x.s := .base (List.mem_map.2 ⟨x, hx, rfl⟩)
        have := keep_of (m := m) (x := 0) (Int.le_refl _) (.base (by simp)) (pw_RSb he hb)
        rw [show (0 : Int).toNat = 0 from rfl, hk'] at this
        cases this
end
/-! Arcs in order, of those that differ only in weight the lightest. -/
def redA (l : List Arc) : List Arc := compact likeA (srtA l)
theorem likeA_iff {a b : Arc} : likeA a b = true ↔ a.f = b.f ∧ a.i = b.i ∧ a.o = b.o ∧ a.t = b.t := by
  simp [likeA, and_assoc]
theorem like_le {a b : Arc} (h : likeA a b = true) (hs : arcLess b a = false) : a.w ≤ b.w := by
  obtain ⟨h1, h2, h3, h4⟩ := likeA_iff.1 h
  simp only [arcLess, arcKey, lessL, h1, h2, h3, h4, if_true] at hs
  by_cases e : b.w = a.w
  · omega
  · rw [if_neg e] at hs
    have := of_decide_eq_false hs
    omega
theorem cptL_dom : ∀ (l : List Arc) (p : Arc), SortedA (p :: l) → ∀ x ∈ p :: l, ∃ y ∈ p :: cpt likeA p l, likeA y x = true ∧ y.w ≤ x.w
  | [], p, _, x, hx => ⟨x, by simpa [cpt] using hx, by simp [likeA], Int.le_refl _⟩
  | b :: l, p, h, x, hx => by
    have h' := List.pairwise_cons.1 h
    rcases List.mem_cons.1 hx with rfl | hx
    · exact ⟨x, by simp, by simp [likeA], Int.le_refl _⟩
    · obtain ⟨y, hy, h1, h2⟩ := cptL_dom l b h'.2 x hx
      unfold cpt
      by_cases e : likeA p b = true
      · rw [if_pos e]
        rcases List.mem_cons.1 hy with rfl | hy
        · have := like_le e (h'.1 y (by simp))
          refine ⟨p, by simp, ?_, by omega⟩
          obtain ⟨a1, a2, a3, a4⟩ := likeA_iff.1 e
          obtain ⟨b1, b2, b3, b4⟩ := likeA_iff.1 h1
          exact likeA_iff.2 ⟨a1.trans b1, a2.trans b2, a3.trans b3, a4.trans b4⟩
        · exact ⟨y, List.mem_cons_of_mem _ hy, h1, h2⟩
      · rw [if_neg e]
        exact ⟨y, List.mem_cons_of_mem _ hy, h1, h2⟩
theorem cptL_strict : ∀ (l : List Arc) (p : Arc), SortedA (p :: l) → (p :: cpt likeA p l).Pairwise fun a b => arcLess a b = true ∧ likeA a b = false
  | [], p, _ => by simp [cpt]
  | b :: l, p, h => by
    have h' := List.pairwise_cons.1 h
    have ih := cptL_strict l b h'.2
    have ihb := (List.pairwise_cons.1 ih).1
    have hsb : ∀ x ∈ cpt likeA b l, arcLess x p = false := fun x hx => h'.1 x (List.mem_cons_of_mem _ ((cpt_sub likeA l b).subset hx))
    have like_less : ∀ {x y z : Arc}, arcLess y x = false → arcLess y z = true → likeA x z = true → likeA y z = true := by
      intro x y z h1 h2 h3
      obtain ⟨a1, a2, a3, a4⟩ := likeA_iff.1 h3
      simp only [arcLess, arcKey, lessL, a1, a2, a3, a4] at h1 h2
      by_cases e1 : y.f = z.f
      · rw [if_pos e1] at h1 h2
        by_cases e2 : y.i = z.i
        · rw [if_pos e2] at h1 h2
          by_cases e3 : y.o = z.o
          · rw [if_pos e3] at h1 h2
            by_cases e4 : y.t = z.t
            · exact likeA_iff.2 ⟨e1, e2, e3, e4⟩
            · rw [if_neg e4] at h1 h2; rw [h1] at h2; cases h2
          · rw [if_neg e3] at h1 h2; rw [h1] at h2; cases h2
        · rw [if_neg e2] at h1 h2; rw [h1] at h2; cases h2
      · rw [if_neg e1] at h1 h2; rw [h1] at h2; cases h2
    unfold cpt
    by_cases e : likeA p b = true
    · rw [if_pos e]
      refine List.pairwise_cons.2 ⟨fun x hx => ?_, (List.pairwise_cons.1 ih).2⟩
      obtain ⟨g1, g2⟩ := ihb x hx
      have hpb := h'.1 b (by simp)
      refine ⟨?_, ?_⟩
      · rcases arcLess_total p b with g | g | g
        · exact arcLess_trans g g1
        · rw [g]; exact g1
        · rw [g] at hpb; cases hpb
      · cases hl : likeA p x with
        | false => rfl
        | true =>
          obtain ⟨a1, a2, a3, a4⟩ := likeA_iff.1 e
          obtain ⟨b1, b2, b3, b4⟩ := likeA_iff.1 hl
          rw [likeA_iff.2 ⟨a1.symm.trans b1, a2.symm.trans b2, a3.symm.trans b3, a4.symm.trans b4⟩] at g2
          cases g2
    · rw [if_neg e]
      have hlt : arcLess p b = true := by
        rcases arcLess_total p b with g | g | g
        · exact g
        · rw [g] at e; exact absurd (by simp [likeA]) e
        · rw [h'.1 b (by simp)] at g; cases g
      refine List.pairwise_cons.2 ⟨fun x hx => ?_, ih⟩
      rcases List.mem_cons.1 hx with rfl | hx
      · exact ⟨hlt, by simpa using e⟩
      · obtain ⟨g1, g2⟩ := ihb x hx
        refine ⟨arcLess_trans hlt g1, ?_⟩
        cases hl : likeA p x with
        | false => rfl
        | true =>
          have := like_less (x := p) (y := b) (z := x) (h'.1 b (by simp)) g1 hl
          rw [this] at g2; cases g2
theorem redA_sub {l : List Arc} {x : Arc} (h : x ∈ redA l) : x ∈ l := (srtA_perm l).mem_iff.1 ((compact_sub likeA (srtA l)).subset h)
theorem redA_dom {l : List Arc} {x : Arc} (h : x ∈ l) : ∃ y ∈ redA l, likeA y x = true ∧ y.w ≤ x.w := by
  have hx : x ∈ srtA l := (srtA_perm l).mem_iff.2 h
  have hs := srtA_sorted l
  unfold redA
  cases hl : srtA l with
  | nil => rw [hl] at hx; cases hx
  | cons p l' =>
    rw [hl] at hx hs
    exact cptL_dom l' p hs x hx
theorem redA_strict (l : List Arc) : (redA l).Pairwise fun a b => arcLess a b = true ∧ likeA a b = false := by
  have hs := srtA_sorted l
  unfold redA
  cases hl : srtA l with
  | nil => exact List.Pairwise.nil
  | cons p l' => rw [hl] at hs; exact cptL_strict l' p hs
theorem redA_len (l : List Arc) : (redA l).length ≤ l.length := Nat.le_trans (compact_len likeA (srtA l)) (Nat.le_of_eq (srtA_perm l).length_eq)
theorem redA_congr {l k : List Arc} (hp : l.Perm k) : redA l = redA k := by unfold redA; rw [srtA_congr hp]
theorem pw_red {A : List Arc} {s t : Int} {u v : List Int} {d : Nat} (h : Pw A s t u v d) : ∃ d', d' ≤ d ∧ Pw (redA A) s t u v d' := by
  induction h with
  | nil => exact ⟨0, Nat.le_refl _, .nil⟩
  | @snoc t u v d a hp ha hf ih =>
    obtain ⟨d', hd, h1⟩ := ih
    obtain ⟨y, hy, hl, hw⟩ := redA_dom ha
    obtain ⟨e1, e2, e3, e4⟩ := likeA_iff.1 hl
    exact ⟨d' + y.w.toNat, by omega, (Pw.snoc h1 hy (by rw [e1, hf])).cast e4 (by rw [e2]) (by rw [e3]) rfl⟩
/-- Each number of S is at least one of T. -/
def Dom (S T : Nat → Prop) : Prop := ∀ d, S d → ∃ d', d' ≤ d ∧ T d'
def redM (m : Mach) : Mach := ⟨m.n, redA m.arcs, m.fins⟩
theorem rng_red {m : Mach} (h : Rng m) : Rng (redM m) where
  arc := fun a ha => h.arc a (redA_sub ha)
  fin := h.fin
  wt := ⟨fun a ha => h.wt.1 a (redA_sub ha), h.wt.2⟩
  n0 := h.n0
theorem acc_red {m : Mach} (h : Rng m) (u v : List Int) : Dom (Acc m u v) (Acc (redM m) u v) ∧ ∀ d, Acc (redM m) u v d → Acc m u v d := by
  constructor
  · intro d hd
    obtain ⟨h0, x, hx, e, he, rfl⟩ := h.acc.1 hd
    obtain ⟨e', h1, h2⟩ := pw_red he
    exact ⟨e' + x.w.toNat, by omega, (rng_red h).acc.2 ⟨h0, x, hx, e', h2, rfl⟩⟩
  · intro d hd
    obtain ⟨h0, x, hx, e, he, rfl⟩ := (rng_red h).acc.1 hd
    exact h.acc.2 ⟨h0, x, hx, e, he.mono fun a ha => redA_sub ha, rfl⟩
/-- The composed machine. -/
noncomputable def compM (a b : Mach) : Mach := redM (trimOf (prodM a b))
theorem rng_comp {a b : Mach} (ha : Rng a) (hb : Rng b) : Rng (compM a b) := rng_red (rng_trim (rng_prod ha hb))
theorem acc_comp {a b : Mach} (ha : Rng a) (hb : Rng b) (u v : List Int) : Dom (CompS a b u v) (Acc (compM a b) u v) ∧ ∀ d, Acc (compM a b) u v d → CompS a b u v d := by
  obtain ⟨h1, h2⟩ := acc_red (rng_trim (rng_prod ha hb)) u v
  exact ⟨fun d hd => h1 d ((acc_trim' (rng_prod ha hb)).2 ((acc_prod ha hb).2 hd)), fun d hd => (acc_prod ha hb).1 ((acc_trim' (rng_prod ha hb)).1 (h2 d hd))⟩
theorem least_dom {m m' : Mach} {u v u' v' : List Int} (h1 : Dom (Acc m u v) (Acc m' u' v')) (h2 : Dom (Acc m' u' v') (Acc m u v)) : wgt m u v = wgt m' u' v' := by
  refine wgt_eq ?_
  rcases wgt_least m' u' v' with ⟨e, h⟩ | ⟨n, e, h, hl⟩
  · exact .inl ⟨e, fun d hd => by obtain ⟨d', _, hd'⟩ := h1 d hd; exact h d' hd'⟩
  · obtain ⟨d', hd, hd'⟩ := h2 n h
    obtain ⟨d2, hd2, hd2'⟩ := h1 d' hd'
    have := hl d2 hd2'
    have : d' = n := by omega
    subst this
    exact .inr ⟨d', e, hd', fun k hk => by obtain ⟨k', h3, h4⟩ := h1 k hk; have := hl k' h4; omega⟩
end Gm
