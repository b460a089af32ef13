/- The composition of two machines, over couples of states: plain law (paths, the search, the couples kept, the machine that is built). No program in sight. -/
import Derived.Test.YtmgpcnkmmgkjgaaWtT
import Derived.Test.YtmgpcnkmmgkjgaaSrP
import Derived.Test.YtmgpcnkmmgkjgaaOuP
import Derived.Test.YtmgpcnkmmgkjgaaMpL
namespace Gm
set_option linter.unusedSimpArgs false
set_option linter.unusedVariables false
/-- The couple p, q as one number. -/
def enc (n p q : Int) : Int := p * n + q
theorem enc_div {n p q : Int} (h0 : 0 ≤ q) (h1 : q < n) : enc n p q / n = p := by
  unfold enc
  rw [Int.add_comm, Int.add_mul_ediv_right _ _ (by omega), Int.ediv_eq_zero_of_lt h0 h1, Int.zero_add]
theorem enc_mod {n p q : Int} (h0 : 0 ≤ q) (h1 : q < n) : enc n p q % n = q := by
  unfold enc
  rw [Int.add_comm, Int.add_mul_emod_self_right, Int.emod_eq_of_lt h0 h1]
theorem enc_inj {n p q p' q' : Int} (h0 : 0 ≤ q) (h1 : q < n) (h0' : 0 ≤ q') (h1' : q' < n) (h : enc n p q = enc n p' q') : p = p' ∧ q = q' :=
  ⟨by rw [← enc_div (p := p) h0 h1, h, enc_div h0' h1'], by rw [← enc_mod (p := p) h0 h1, h, enc_mod h0' h1']⟩
theorem enc_rng {m n p q : Int} (hp : 0 ≤ p) (hm : p < m) (h0 : 0 ≤ q) (h1 : q < n) : 0 ≤ enc n p q ∧ enc n p q < m * n := by
  unfold enc
  have h2 : 0 ≤ p * n := Int.mul_nonneg hp (by omega)
  have h3 : (p + 1) * n ≤ m * n := Int.mul_le_mul_of_nonneg_right (by omega) (by omega)
  have h4 : (p + 1) * n = p * n + n := by rw [Int.add_mul, Int.one_mul]
  omega
theorem enc_lt {n p q p' q' : Int} (h0 : 0 ≤ q) (h1 : q < n) (h0' : 0 ≤ q') (h1' : q' < n) : enc n p q < enc n p' q' ↔ p < p' ∨ (p = p' ∧ q < q') := by
  unfold enc
  constructor
  · intro h
    rcases Int.lt_trichotomy p p' with h2 | h2 | h2
    · exact .inl h2
    · subst h2; exact .inr ⟨rfl, by omega⟩
    · have h3 : (p' + 1) * n ≤ p * n := Int.mul_le_mul_of_nonneg_right (by omega) (by omega)
      have h4 : (p' + 1) * n = p' * n + n := by rw [Int.add_mul, Int.one_mul]
      omega
  · rintro (h2 | ⟨rfl, h2⟩)
    · have h3 : (p + 1) * n ≤ p' * n := Int.mul_le_mul_of_nonneg_right (by omega) (by omega)
      have h4 : (p + 1) * n = p * n + n := by rw [Int.add_mul, Int.one_mul]
      omega
    · omega
theorem enc_dec {n s : Int} (hn : 0 < n) : enc n (s / n) (s % n) = s := by
  unfold enc
  rw [Int.mul_comm]; exact Int.mul_ediv_add_emod s n
def prodA (nb : Int) (x y : Arc) : Arc := ⟨enc nb x.f y.f, enc nb x.t y.t, x.i, y.o, x.w + y.w⟩
def prodL (nb : Int) (x : Arc) (q : Int) : Arc := ⟨enc nb x.f q, enc nb x.t q, x.i, 0, x.w⟩
def prodR (nb : Int) (y : Arc) (p : Int) : Arc := ⟨enc nb p y.f, enc nb p y.t, 0, y.o, y.w⟩
def prodX (a b : Mach) (x : Arc) : List Arc := if x.o = 0 then (List.range b.n.toNat).map (fun q : Nat => prodL b.n x (q : Int)) else (b.arcs.filter fun y => decide (y.i = x.o)).map (prodA b.n x)
def prodY (a b : Mach) (y : Arc) : List Arc := if y.i = 0 then (List.range a.n.toNat).map (fun p : Nat => prodR b.n y (p : Int)) else []
/-- The arcs of the composition, all couples of states. -/
def prodArcs (a b : Mach) : List Arc := a.arcs.flatMap (prodX a b) ++ b.arcs.flatMap (prodY a b)
def prodFins (a b : Mach) : List Fnl := a.fins.flatMap fun x => b.fins.map fun y => ⟨enc b.n x.s y.s, x.w + y.w⟩
def prodM (a b : Mach) : Mach := ⟨a.n * b.n, prodArcs a b, prodFins a b⟩
theorem mem_prod {a b : Mach} {z : Arc} : z ∈ prodArcs a b ↔ (∃ x ∈ a.arcs, x.o = 0 ∧ ∃ q : Nat, q < b.n.toNat ∧ z = prodL b.n x q) ∨ (∃ x ∈ a.arcs, x.o ≠ 0 ∧ ∃ y ∈ b.arcs, y.i = x.o ∧ z = prodA b.n x y) ∨ (∃ y ∈ b.arcs, y.i = 0 ∧ ∃ p : Nat, p < a.n.toNat ∧ z = prodR b.n y p) := by
  unfold prodArcs
  rw [List.mem_append, List.mem_flatMap, List.mem_flatMap]
  constructor
  · rintro (⟨x, hx, hz⟩ | ⟨y, hy, hz⟩)
    · unfold prodX at hz
      by_cases h : x.o = 0
      · rw [if_pos h] at hz
        obtain ⟨q, hq, rfl⟩ := List.mem_map.1 hz
        exact .inl ⟨x, hx, h, q, List.mem_range.1 hq, rfl⟩
      · rw [if_neg h] at hz
        obtain ⟨y, hy, rfl⟩ := List.mem_map.1 hz
        obtain ⟨hy1, hy2⟩ := List.mem_filter.1 hy
        exact .inr (.inl ⟨x, hx, h, y, hy1, of_decide_eq_true hy2, rfl⟩)
    · unfold prodY at hz
      by_cases h : y.i = 0
      · rw [if_pos h] at hz
        obtain ⟨p, hp, rfl⟩ := List.mem_map.1 hz
        exact .inr (.inr ⟨y, hy, h, p, List.mem_range.1 hp, rfl⟩)
      · rw [if_neg h] at hz; cases hz
  · rintro (⟨x, hx, h, q, hq, rfl⟩ | ⟨x, hx, h, y, hy, e, rfl⟩ | ⟨y, hy, h, p, hp, rfl⟩)
    · exact .inl ⟨x, hx, by unfold prodX; rw [if_pos h]; exact List.mem_map.2 ⟨q, List.mem_range.2 hq, rfl⟩⟩
    · exact .inl ⟨x, hx, by unfold prodX; rw [if_neg h]; exact List.mem_map.2 ⟨y, List.mem_filter.2 ⟨hy, decide_eq_true e⟩, rfl⟩⟩
    · exact .inr ⟨y, hy, by unfold prodY; rw [if_pos h]; exact List.mem_map.2 ⟨p, List.mem_range.2 hp, rfl⟩⟩
theorem mem_prodF {a b : Mach} {z : Fnl} : z ∈ prodFins a b ↔ ∃ x ∈ a.fins, ∃ y ∈ b.fins, z = ⟨enc b.n x.s y.s, x.w + y.w⟩ := by
  unfold prodFins
  rw [List.mem_flatMap]
  constructor
  · rintro ⟨x, hx, hz⟩
    obtain ⟨y, hy, rfl⟩ := List.mem_map.1 hz
    exact ⟨x, hx, y, hy, rfl⟩
  · rintro ⟨x, hx, y, hy, rfl⟩
    exact ⟨x, hx, List.mem_map.2 ⟨y, hy, rfl⟩⟩
theorem rng_prod {a b : Mach} (ha : Rng a) (hb : Rng b) : Rng (prodM a b) where
  arc := fun z hz => by
    rcases mem_prod.1 hz with ⟨x, hx, h, q, hq, rfl⟩ | ⟨x, hx, h, y, hy, e, rfl⟩ | ⟨y, hy, h, p, hp, rfl⟩
    · have h1 := ha.arc x hx
      have h2 := enc_rng (m := a.n) (n := b.n) (p := x.f) (q := q) (by omega) (by omega) (by omega) (by omega)
      have h3 := enc_rng (m := a.n) (n := b.n) (p := x.t) (q := q) (by omega) (by omega) (by omega) (by omega)
      exact ⟨h2.1, h2.2, h3.1, h3.2⟩
    · have h1 := ha.arc x hx
      have h1' := hb.arc y hy
      have h2 := enc_rng (m := a.n) (n := b.n) (p := x.f) (q := y.f) (by omega) (by omega) (by omega) (by omega)
      have h3 := enc_rng (m := a.n) (n := b.n) (p := x.t) (q := y.t) (by omega) (by omega) (by omega) (by omega)
      exact ⟨h2.1, h2.2, h3.1, h3.2⟩
    · have h1' := hb.arc y hy
      have h2 := enc_rng (m := a.n) (n := b.n) (p := p) (q := y.f) (by omega) (by omega) (by omega) (by omega)
      have h3 := enc_rng (m := a.n) (n := b.n) (p := p) (q := y.t) (by omega) (by omega) (by omega) (by omega)
      exact ⟨h2.1, h2.2, h3.1, h3.2⟩
  fin := fun z hz => by
    obtain ⟨x, hx, y, hy, rfl⟩ := mem_prodF.1 hz
    have h1 := ha.fin x hx
    have h2 := hb.fin y hy
    exact enc_rng (by omega) (by omega) (by omega) (by omega)
  wt := ⟨fun z hz => by
    rcases mem_prod.1 hz with ⟨x, hx, h, q, hq, rfl⟩ | ⟨x, hx, h, y, hy, e, rfl⟩ | ⟨y, hy, h, p, hp, rfl⟩
    · exact ha.wt.1 x hx
    · have := ha.wt.1 x hx
      have := hb.wt.1 y hy
      show 0 ≤ x.w + y.w; omega
    · exact hb.wt.1 y hy, fun z hz => by
    obtain ⟨x, hx, y, hy, rfl⟩ := mem_prodF.1 hz
    have := ha.wt.2 x hx
    have := hb.wt.2 y hy
    show 0 ≤ x.w + y.w; omega⟩
  n0 := Int.mul_nonneg ha.n0 hb.n0
theorem pw_rng {m : Mach} (hm : Rng m) (h0 : 0 < m.n) {t : Int} {u v : List Int} {d : Nat} (h : Pw m.arcs 0 t u v d) : 0 ≤ t ∧ t < m.n := by
  cases h with
  | nil => exact ⟨Int.le_refl _, h0⟩
  | snoc _ ha _ => exact ⟨(hm.arc _ ha).2.2.1, (hm.arc _ ha).2.2.2⟩
section
variable {a b : Mach} (ha : Rng a) (hb : Rng b) (ha0 : 0 < a.n) (hb0 : 0 < b.n)
include ha hb ha0 hb0
/-- A path of the composition is a path of each machine, with one word between. -/
theorem prod_pw {t : Int} {u v : List Int} {d : Nat} (h : Pw (prodArcs a b) 0 t u v d) : ∃ p q w d1 d2, 0 ≤ p ∧ p < a.n ∧ 0 ≤ q ∧ q < b.n ∧ t = enc b.n p q ∧ Pw a.arcs 0 p u w d1 ∧ Pw b.arcs 0 q w v d2 ∧ d = d1 + d2 := by
  induction h with
  | nil => exact ⟨0, 0, [], 0, 0, Int.le_refl _, ha0, Int.le_refl _, hb0, by simp [enc], .nil, .nil, rfl⟩
  | @snoc t u v d z hp hz hf ih =>
    obtain ⟨p, q, w, d1, d2, hp0, hp1, hq0, hq1, rfl, h1, h2, rfl⟩ := ih
    rcases mem_prod.1 hz with ⟨x, hx, h, q', hq', rfl⟩ | ⟨x, hx, h, y, hy, e, rfl⟩ | ⟨y, hy, h, p', hp', rfl⟩
    · obtain ⟨e1, e2⟩ := enc_inj (by omega) (by omega) hq0 hq1 hf
      have hr := ha.arc x hx
      refine ⟨x.t, q, w, d1 + x.w.toNat, d2, by omega, by omega, hq0, hq1, by rw [← e2]; rfl, (Pw.snoc h1 hx e1).cast rfl rfl (by rw [h]; simp [lab]) rfl, h2.cast rfl rfl (by simp [prodL, lab]) rfl, ?_⟩
      show d1 + d2 + x.w.toNat = _; omega
    · have hr := ha.arc x hx
      have hr' := hb.arc y hy
      obtain ⟨e1, e2⟩ := enc_inj (by omega) (by omega) hq0 hq1 hf
      have hw1 := ha.wt.1 x hx
      have hw2 := hb.wt.1 y hy
      refine ⟨x.t, y.t, w ++ lab x.o, d1 + x.w.toNat, d2 + y.w.toNat, by omega, by omega, by omega, by omega, rfl, Pw.snoc h1 hx e1, (Pw.snoc h2 hy e2).cast rfl (by rw [e]) rfl rfl, ?_⟩
      show d1 + d2 + (x.w + y.w).toNat = _; omega
    · have hr' := hb.arc y hy
      obtain ⟨e1, e2⟩ := enc_inj (by omega) (by omega) hq0 hq1 hf
      refine ⟨p, y.t, w, d1, d2 + y.w.toNat, hp0, hp1, by omega, by omega, by rw [← e1]; rfl, h1.cast rfl (by simp [prodR, lab]) rfl rfl, (Pw.snoc h2 hy e2).cast rfl (by rw [h]; simp [lab]) rfl rfl, ?_⟩
      show d1 + d2 + y.w.toNat = _; omega
theorem pw_prod {p : Int} {u w : List Int} {d1 : Nat} (h1 : Pw a.arcs 0 p u w d1) : ∀ {q : Int} {v : List Int} {d2 : Nat}, Pw b.arcs 0 q w v d2 → Pw (prodArcs a b) 0 (enc b.n p q) u v (d1 + d2) := by
  have epsR : ∀ {p q : Int} {u v : List Int} {d : Nat} {y : Arc}, 0 ≤ p → p < a.n → Pw (prodArcs a b) 0 (enc b.n p q) u v d → y ∈ b.arcs → y.f = q → y.i = 0 → Pw (prodArcs a b) 0 (enc b.n p y.t) u (v ++ lab y.o) (d + y.w.toNat) := by
    intro p q u v d y hp0 hp1 h hy hf hi
    have hz : prodR b.n y p ∈ prodArcs a b := mem_prod.2 (.inr (.inr ⟨y, hy, hi, p.toNat, by omega, by rw [show ((p.toNat : Nat) : Int) = p by omega]⟩))
    exact (Pw.snoc h hz (by show enc b.n p y.f = _; rw [hf])).cast rfl (by simp [prodR, lab]) rfl rfl
  induction h1 with
  | nil =>
    intro q v d2 h2
    have key : ∀ {q : Int} {w v : List Int} {d2 : Nat}, Pw b.arcs 0 q w v d2 → w = [] → Pw (prodArcs a b) 0 (enc b.n 0 q) [] v d2 := by
      intro q w v d2 h2
      induction h2 with
      | nil => intro _; exact Pw.nil.cast (by simp [enc]) rfl rfl rfl
      | @snoc q w v d y hp hy hf ih =>
        intro e
        obtain ⟨e1, e2⟩ := List.append_eq_nil_iff.1 e
        have hi : y.i = 0 := by
          unfold lab at e2
          by_cases h : y.i = 0
          · exact h
          · rw [if_neg h] at e2; cases e2
        exact epsR (Int.le_refl _) ha0 (ih e1) hy hf hi
    exact (key h2 rfl).cast rfl rfl rfl (by omega)
  | @snoc p u w d1 x h1 hx hf ih =>
    have hr := ha.arc x hx
    intro q v d2 h2
    by_cases ho : x.o = 0
    · have h2' := h2.cast rfl (show w ++ lab x.o = w by rw [ho]; simp [lab]) rfl rfl
      have hq := pw_rng hb hb0 h2'
      have hz : prodL b.n x q ∈ prodArcs a b := mem_prod.2 (.inl ⟨x, hx, ho, q.toNat, by omega, by rw [show ((q.toNat : Nat) : Int) = q by omega]⟩)
      exact (Pw.snoc (ih h2') hz (by show enc b.n x.f q = _; rw [hf])).cast rfl rfl (by simp [prodL, lab]) (by show d1 + d2 + x.w.toNat = _; omega)
    · have key : ∀ {q : Int} {w2 v : List Int} {d2 : Nat}, Pw b.arcs 0 q w2 v d2 → w2 = w ++ [x.o] → Pw (prodArcs a b) 0 (enc b.n x.t q) (u ++ lab x.i) v (d1 + x.w.toNat + d2) := by
        intro q w2 v d2 h2
        induction h2 with
        | nil => intro e; simp at e
        | @snoc q w2 v d y hp hy hfy ih2 =>
          intro e
          by_cases hi : y.i = 0
          · have e1 : w2 = w ++ [x.o] := by rw [hi] at e; simpa [lab] using e
            exact (epsR hr.2.2.1 hr.2.2.2 (ih2 e1) hy hfy hi).cast rfl rfl rfl (by omega)
          · rw [lab, if_neg hi] at e
            obtain ⟨e1, e2⟩ := List.append_inj' e rfl
            have e3 : y.i = x.o := by injection e2
            have hz : prodA b.n x y ∈ prodArcs a b := mem_prod.2 (.inr (.inl ⟨x, hx, ho, y, hy, e3, rfl⟩))
            have hw1 := ha.wt.1 x hx
            have hw2 := hb.wt.1 y hy
            exact (Pw.snoc (ih (hp.cast rfl e1 rfl rfl)) hz (by show enc b.n x.f y.f = _; rw [hf, hfy])).cast rfl rfl rfl (by show d1 + d + (x.w + y.w).toNat = _; omega)
      exact key h2 (by rw [lab, if_neg ho])
end
/-- What two machines accept one behind the other. -/
def CompS (a b : Mach) (u v : List Int) (d : Nat) : Prop := ∃ w d1 d2, d = d1 + d2 ∧ Acc a u w d1 ∧ Acc b w v d2
theorem acc_prod {a b : Mach} (ha : Rng a) (hb : Rng b) {u v : List Int} {d : Nat} : Acc (prodM a b) u v d ↔ CompS a b u v d := by
  rw [(rng_prod ha hb).acc]
  unfold CompS
  constructor
  · rintro ⟨h0, z, hz, e, he, rfl⟩
    have hn : 0 < a.n ∧ 0 < b.n := by
      have h0 : 0 < a.n * b.n := h0
      have := ha.n0
      have := hb.n0
      constructor
      · rcases Int.lt_or_le 0 a.n with h | h
        · exact h
        · rw [show a.n = 0 by omega, Int.zero_mul] at h0; omega
      · rcases Int.lt_or_le 0 b.n with h | h
        · exact h
        · rw [show b.n = 0 by omega, Int.mul_zero] at h0; omega
    obtain ⟨x, hx, y, hy, rfl⟩ := mem_prodF.1 hz
    obtain ⟨p, q, w, d1, d2, hp0, hp1, hq0, hq1, e1, h1, h2, rfl⟩ := prod_pw ha hb hn.1 hn.2 he
    have rx := ha.fin x hx
    have ry := hb.fin y hy
    obtain ⟨rfl, rfl⟩ := enc_inj ry.1 ry.2 hq0 hq1 e1
    have wx := ha.wt.2 x hx
    have wy := hb.wt.2 y hy
    exact ⟨w, d1 + x.w.toNat, d2 + y.w.toNat, by show d1 + d2 + (x.w + y.w).toNat = _; omega, ha.acc.2 ⟨hn.1, x, hx, d1, h1, rfl⟩, hb.acc.2 ⟨hn.2, y, hy, d2, h2, rfl⟩⟩
  · rintro ⟨w, d1, d2, rfl, h1, h2⟩
    obtain ⟨ha0, x, hx, e1, p1, rfl⟩ := ha.acc.1 h1
    obtain ⟨hb0, y, hy, e2, p2, rfl⟩ := hb.acc.1 h2
    have wx := ha.wt.2 x hx
    have wy := hb.wt.2 y hy
    exact ⟨Int.mul_pos ha0 hb0, ⟨enc b.n x.s y.s, x.w + y.w⟩, mem_prodF.2 ⟨x, hx, y, hy, rfl⟩, e1 + e2, pw_prod ha hb ha0 hb0 p1 p2, by show _ = e1 + e2 + (x.w + y.w).toNat; omega⟩
/-! Trimming, at a machine that need not be in order. -/
section
variable {m : Mach} (h : Rng m)
include h
theorem RS_rngF' {x : Int} (h0 : 0 < m.n) (hr : RS false m.arcs [0] x) : 0 ≤ x ∧ x < m.n := by
  induction hr with
  | base hs => simp at hs; omega
  | @step s t a _ ha hk hv _ =>
    have := h.arc a ha
    have hv' : a.t = t := hv
    omega
theorem RS_rngB' {x : Int} (hr : RS true m.arcs (finStates m.fins) x) : 0 ≤ x ∧ x < m.n := by
  induction hr with
  | base hs =>
    obtain ⟨y, hy, rfl⟩ := List.mem_map.1 hs
    exact h.fin y hy
  | @step s t a _ ha hk hv _ =>
    have := h.arc a ha
    have hv' : a.f = t := hv
    omega
theorem pw_part' {t : Int} {u v : List Int} {d : Nat} (hp : Pw m.arcs 0 t u v d) : RS true m.arcs (finStates m.fins) t → Pw (partM m (keepK m)).arcs 0 (cntK (keepK m) t.toNat : Int) u v d := by
  induction hp with
  | nil => intro _; exact Pw.nil.cast (by simp [cntK]) rfl rfl rfl
  | @snoc t u v d a hp ha hf ih =>
    intro ht
    have hb : RS true m.arcs (finStates m.fins) t := .step (a := a) ht ha rfl hf
    have hft : RS false m.arcs [0] t := pw_RSf hp (.base (by simp))
    have hsr := RS_rngB' h hb
    have htr := RS_rngB' h ht
    have k1 := keep_of hsr.1 hft hb
    have k2 := keep_of htr.1 (.step (a := a) hft ha hf rfl) ht
    exact Pw.snoc (ih hb) (mem_part ha (by rw [hf]; exact k1) k2) (by show ((cntK (keepK m) a.f.toNat : Nat) : Int) = _; rw [hf])
theorem part_pw' (hk : keepK m 0 = true) {t : Int} {u v : List Int} {d : Nat} (hp : Pw (partM m (keepK m)).arcs 0 t u v d) : ∃ s, 0 ≤ s ∧ keepK m s.toNat = true ∧ t = (cntK (keepK m) s.toNat : Int) ∧ Pw m.arcs 0 s u v d := by
  induction hp with
  | nil => exact ⟨0, Int.le_refl _, hk, by simp [cntK], .nil⟩
  | @snoc t u v d a hp ha hf ih =>
    obtain ⟨s, hs, ks, rfl, hq⟩ := ih
    obtain ⟨b, hb, rfl⟩ := List.mem_map.1 ha
    obtain ⟨hb1, hb2⟩ := List.mem_filter.1 hb
    simp only [Bool.and_eq_true] at hb2
    have hr := h.arc b hb1
    have e : b.f = s := num_inj hr.1 hs hb2.1 ks hf
    exact ⟨b.t, hr.2.2.1, hb2.2, rfl, .snoc hq hb1 e⟩
theorem rng_part : Rng (partM m (keepK m)) where
  arc := fun a ha => by
    obtain ⟨b, hb, rfl⟩ := List.mem_map.1 ha
    obtain ⟨hb1, hb2⟩ := List.mem_filter.1 hb
    simp only [Bool.and_eq_true] at hb2
    have hr := h.arc b hb1
    have c1 := cntK_strict (K := keepK m) (show b.f.toNat < m.n.toNat by omega) hb2.1
    have c2 := cntK_strict (K := keepK m) (show b.t.toNat < m.n.toNat by omega) hb2.2
    show 0 ≤ ((cntK (keepK m) b.f.toNat : Nat) : Int) ∧ ((cntK (keepK m) b.f.toNat : Nat) : Int) < ((cntK (keepK m) m.n.toNat : Nat) : Int) ∧ 0 ≤ ((cntK (keepK m) b.t.toNat : Nat) : Int) ∧ ((cntK (keepK m) b.t.toNat : Nat) : Int) < ((cntK (keepK m) m.n.toNat : Nat) : Int)
    omega
  fin := fun x hx => by
    obtain ⟨y, hy, rfl⟩ := List.mem_map.1 hx
    obtain ⟨hy1, hy2⟩ := List.mem_filter.1 hy
    have hr := h.fin y hy1
    have c1 := cntK_strict (K := keepK m) (show y.s.toNat < m.n.toNat by omega) hy2
    show 0 ≤ ((cntK (keepK m) y.s.toNat : Nat) : Int) ∧ ((cntK (keepK m) y.s.toNat : Nat) : Int) < ((cntK (keepK m) m.n.toNat : Nat) : Int)
    omega
  wt := ⟨fun a ha => by
    obtain ⟨b, hb, rfl⟩ := List.mem_map.1 ha
    exact h.wt.1 b (List.mem_filter.1 hb).1, fun x hx => by
    obtain ⟨y, hy, rfl⟩ := List.mem_map.1 hx
    exact h.wt.2 y (List.mem_filter.1 hy).1⟩
  n0 := by show 0 ≤ ((cntK (keepK m) m.n.toNat : Nat) : Int); omega
theorem rng_trim : Rng (trimOf m) := by
  unfold trimOf
  split
  · exact ⟨by simp [emptyM], by simp [emptyM], by simp [emptyM], by simp [emptyM]⟩
  · exact rng_part h
theorem acc_trim' {u v : List Int} {d : Nat} : Acc (trimOf m) u v d ↔ Acc m u v d := by
  rw [(rng_trim h).acc, h.acc]
  unfold trimOf
  by_cases hn : m.n = 0
  · rw [if_pos (.inl hn)]
    simp [emptyM, hn]
  · have h0' : 0 < m.n := by have := h.n0; omega
    by_cases hk : keepK m 0 = true
    · rw [if_neg (by simp [hn, hk])]
      constructor
      · rintro ⟨h1, x, hx, e, he, rfl⟩
        obtain ⟨y, hy, rfl⟩ := List.mem_map.1 hx
        obtain ⟨hy1, hy2⟩ := List.mem_filter.1 hy
        obtain ⟨s, hs, ks, hst, hq⟩ := part_pw' h hk he
        have hr := h.fin y hy1
        have e1 : y.s = s := num_inj hr.1 hs hy2 ks hst
        exact ⟨h0', y, hy1, e, by rw [e1]; exact hq, rfl⟩
      · rintro ⟨h1, x, hx, e, he, rfl⟩
        have hb : RS true m.arcs (finStates m.fins) x.s := .base (List.mem_map.2 ⟨x, hx, rfl⟩)
        have hr := h.fin x hx
        have kx := keep_of hr.1 (pw_RSf he (.base (by simp))) hb
        have hc := cntK_strict (K := keepK m) (show x.s.toNat < m.n.toNat by omega) kx
        refine ⟨?_, partFin (keepK m) x, List.mem_map.2 ⟨x, List.mem_filter.2 ⟨hx, kx⟩, rfl⟩, e, pw_part' h he hb, rfl⟩
        show 0 < ((cntK (keepK m) m.n.toNat : Nat) : Int); omega
    · have hk' : keepK m 0 = false := by simpa using hk
      rw [if_pos (.inr hk')]
      constructor
      · rintro ⟨h1, _⟩; exact absurd h1 (by simp [emptyM])
      · rintro ⟨_, x, hx, e, he, rfl⟩
        exfalso
        have hb : RS true m.arcs (finStates m.fins) x.s := .base (List.mem_map.2 ⟨x, hx, rfl⟩)
        have := keep_of (m := m) (x := 0) (Int.le_refl _) (.base (by simp)) (pw_RSb he hb)
        rw [show (0 : Int).toNat = 0 from rfl, hk'] at this
        cases this
end
/-! Arcs in order, of those that differ only in weight the lightest. -/
def redA (l : List Arc) : List Arc := compact likeA (srtA l)
theorem likeA_iff {a b : Arc} : likeA a b = true ↔ a.f = b.f ∧ a.i = b.i ∧ a.o = b.o ∧ a.t = b.t := by
  simp [likeA, and_assoc]
theorem like_le {a b : Arc} (h : likeA a b = true) (hs : arcLess b a = false) : a.w ≤ b.w := by
  obtain ⟨h1, h2, h3, h4⟩ := likeA_iff.1 h
  simp only [arcLess, arcKey, lessL, h1, h2, h3, h4, if_true] at hs
  by_cases e : b.w = a.w
  · omega
  · rw [if_neg e] at hs
    have := of_decide_eq_false hs
    omega
theorem cptL_dom : ∀ (l : List Arc) (p : Arc), SortedA (p :: l) → ∀ x ∈ p :: l, ∃ y ∈ p :: cpt likeA p l, likeA y x = true ∧ y.w ≤ x.w
  | [], p, _, x, hx => ⟨x, by simpa [cpt] using hx, by simp [likeA], Int.le_refl _⟩
  | b :: l, p, h, x, hx => by
    have h' := List.pairwise_cons.1 h
    rcases List.mem_cons.1 hx with rfl | hx
    · exact ⟨x, by simp, by simp [likeA], Int.le_refl _⟩
    · obtain ⟨y, hy, h1, h2⟩ := cptL_dom l b h'.2 x hx
      unfold cpt
      by_cases e : likeA p b = true
      · rw [if_pos e]
        rcases List.mem_cons.1 hy with rfl | hy
        · have := like_le e (h'.1 y (by simp))
          refine ⟨p, by simp, ?_, by omega⟩
          obtain ⟨a1, a2, a3, a4⟩ := likeA_iff.1 e
          obtain ⟨b1, b2, b3, b4⟩ := likeA_iff.1 h1
          exact likeA_iff.2 ⟨a1.trans b1, a2.trans b2, a3.trans b3, a4.trans b4⟩
        · exact ⟨y, List.mem_cons_of_mem _ hy, h1, h2⟩
      · rw [if_neg e]
        exact ⟨y, List.mem_cons_of_mem _ hy, h1, h2⟩
theorem cptL_strict : ∀ (l : List Arc) (p : Arc), SortedA (p :: l) → (p :: cpt likeA p l).Pairwise fun a b => arcLess a b = true ∧ likeA a b = false
  | [], p, _ => by simp [cpt]
  | b :: l, p, h => by
    have h' := List.pairwise_cons.1 h
    have ih := cptL_strict l b h'.2
    have ihb := (List.pairwise_cons.1 ih).1
    have hsb : ∀ x ∈ cpt likeA b l, arcLess x p = false := fun x hx => h'.1 x (List.mem_cons_of_mem _ ((cpt_sub likeA l b).subset hx))
    have like_less : ∀ {x y z : Arc}, arcLess y x = false → arcLess y z = true → likeA x z = true → likeA y z = true := by
      intro x y z h1 h2 h3
      obtain ⟨a1, a2, a3, a4⟩ := likeA_iff.1 h3
      simp only [arcLess, arcKey, lessL, a1, a2, a3, a4] at h1 h2
      by_cases e1 : y.f = z.f
      · rw [if_pos e1] at h1 h2
        by_cases e2 : y.i = z.i
        · rw [if_pos e2] at h1 h2
          by_cases e3 : y.o = z.o
          · rw [if_pos e3] at h1 h2
            by_cases e4 : y.t = z.t
            · exact likeA_iff.2 ⟨e1, e2, e3, e4⟩
            · rw [if_neg e4] at h1 h2; rw [h1] at h2; cases h2
          · rw [if_neg e3] at h1 h2; rw [h1] at h2; cases h2
        · rw [if_neg e2] at h1 h2; rw [h1] at h2; cases h2
      · rw [if_neg e1] at h1 h2; rw [h1] at h2; cases h2
    unfold cpt
    by_cases e : likeA p b = true
    · rw [if_pos e]
      refine List.pairwise_cons.2 ⟨fun x hx => ?_, (List.pairwise_cons.1 ih).2⟩
      obtain ⟨g1, g2⟩ := ihb x hx
      have hpb := h'.1 b (by simp)
      refine ⟨?_, ?_⟩
      · rcases arcLess_total p b with g | g | g
        · exact arcLess_trans g g1
        · rw [g]; exact g1
        · rw [g] at hpb; cases hpb
      · cases hl : likeA p x with
        | false => rfl
        | true =>
          obtain ⟨a1, a2, a3, a4⟩ := likeA_iff.1 e
          obtain ⟨b1, b2, b3, b4⟩ := likeA_iff.1 hl
          rw [likeA_iff.2 ⟨a1.symm.trans b1, a2.symm.trans b2, a3.symm.trans b3, a4.symm.trans b4⟩] at g2
          cases g2
    · rw [if_neg e]
      have hlt : arcLess p b = true := by
        rcases arcLess_total p b with g | g | g
        · exact g
        · rw [g] at e; exact absurd (by simp [likeA]) e
        · rw [h'.1 b (by simp)] at g; cases g
      refine List.pairwise_cons.2 ⟨fun x hx => ?_, ih⟩
      rcases List.mem_cons.1 hx with rfl | hx
      · exact ⟨hlt, by simpa using e⟩
      · obtain ⟨g1, g2⟩ := ihb x hx
        refine ⟨arcLess_trans hlt g1, ?_⟩
        cases hl : likeA p x with
        | false => rfl
        | true =>
          have := like_less (x := p) (y := b) (z := x) (h'.1 b (by simp)) g1 hl
          rw [this] at g2; cases g2
theorem redA_sub {l : List Arc} {x : Arc} (h : x ∈ redA l) : x ∈ l := (srtA_perm l).mem_iff.1 ((compact_sub likeA (srtA l)).subset h)
theorem redA_dom {l : List Arc} {x : Arc} (h : x ∈ l) : ∃ y ∈ redA l, likeA y x = true ∧ y.w ≤ x.w := by
  have hx : x ∈ srtA l := (srtA_perm l).mem_iff.2 h
  have hs := srtA_sorted l
  unfold redA
  cases hl : srtA l with
  | nil => rw [hl] at hx; cases hx
  | cons p l' =>
    rw [hl] at hx hs
    exact cptL_dom l' p hs x hx
theorem redA_strict (l : List Arc) : (redA l).Pairwise fun a b => arcLess a b = true ∧ likeA a b = false := by
  have hs := srtA_sorted l
  unfold redA
  cases hl : srtA l with
  | nil => exact List.Pairwise.nil
  | cons p l' => rw [hl] at hs; exact cptL_strict l' p hs
theorem redA_len (l : List Arc) : (redA l).length ≤ l.length := Nat.le_trans (compact_len likeA (srtA l)) (Nat.le_of_eq (srtA_perm l).length_eq)
theorem redA_congr {l k : List Arc} (hp : l.Perm k) : redA l = redA k := by unfold redA; rw [srtA_congr hp]
theorem pw_red {A : List Arc} {s t : Int} {u v : List Int} {d : Nat} (h : Pw A s t u v d) : ∃ d', d' ≤ d ∧ Pw (redA A) s t u v d' := by
  induction h with
  | nil => exact ⟨0, Nat.le_refl _, .nil⟩
  | @snoc t u v d a hp ha hf ih =>
    obtain ⟨d', hd, h1⟩ := ih
    obtain ⟨y, hy, hl, hw⟩ := redA_dom ha
    obtain ⟨e1, e2, e3, e4⟩ := likeA_iff.1 hl
    exact ⟨d' + y.w.toNat, by omega, (Pw.snoc h1 hy (by rw [e1, hf])).cast e4 (by rw [e2]) (by rw [e3]) rfl⟩
/-- Each number of S is at least one of T. -/
def Dom (S T : Nat → Prop) : Prop := ∀ d, S d → ∃ d', d' ≤ d ∧ T d'
def redM (m : Mach) : Mach := ⟨m.n, redA m.arcs, m.fins⟩
theorem rng_red {m : Mach} (h : Rng m) : Rng (redM m) where
  arc := fun a ha => h.arc a (redA_sub ha)
  fin := h.fin
  wt := ⟨fun a ha => h.wt.1 a (redA_sub ha), h.wt.2⟩
  n0 := h.n0
theorem acc_red {m : Mach} (h : Rng m) (u v : List Int) : Dom (Acc m u v) (Acc (redM m) u v) ∧ ∀ d, Acc (redM m) u v d → Acc m u v d := by
  constructor
  · intro d hd
    obtain ⟨h0, x, hx, e, he, rfl⟩ := h.acc.1 hd
    obtain ⟨e', h1, h2⟩ := pw_red he
    exact ⟨e' + x.w.toNat, by omega, (rng_red h).acc.2 ⟨h0, x, hx, e', h2, rfl⟩⟩
  · intro d hd
    obtain ⟨h0, x, hx, e, he, rfl⟩ := (rng_red h).acc.1 hd
    exact h.acc.2 ⟨h0, x, hx, e, he.mono fun a ha => redA_sub ha, rfl⟩
/-- The composed machine. -/
noncomputable def compM (a b : Mach) : Mach := redM (trimOf (prodM a b))
theorem rng_comp {a b : Mach} (ha : Rng a) (hb : Rng b) : Rng (compM a b) := rng_red (rng_trim (rng_prod ha hb))
theorem acc_comp {a b : Mach} (ha : Rng a) (hb : Rng b) (u v : List Int) : Dom (CompS a b u v) (Acc (compM a b) u v) ∧ ∀ d, Acc (compM a b) u v d → CompS a b u v d := by
  obtain ⟨h1, h2⟩ := acc_red (rng_trim (rng_prod ha hb)) u v
  exact ⟨fun d hd => h1 d ((acc_trim' (rng_prod ha hb)).2 ((acc_prod ha hb).2 hd)), fun d hd => (acc_prod ha hb).1 ((acc_trim' (rng_prod ha hb)).1 (h2 d hd))⟩
theorem least_dom {m m' : Mach} {u v u' v' : List Int} (h1 : Dom (Acc m u v) (Acc m' u' v')) (h2 : Dom (Acc m' u' v') (Acc m u v)) : wgt m u v = wgt m' u' v' := by
  refine wgt_eq ?_
  rcases wgt_least m' u' v' with ⟨e, h⟩ | ⟨n, e, h, hl⟩
  · exact .inl ⟨e, fun d hd => by obtain ⟨d', _, hd'⟩ := h1 d hd; exact h d' hd'⟩
  · obtain ⟨d', hd, hd'⟩ := h2 n h
    obtain ⟨d2, hd2, hd2'⟩ := h1 d' hd'
    have := hl d2 hd2'
    have : d' = n := by omega
    subst this
    exact .inr ⟨d', e, hd', fun k hk => by obtain ⟨k', h3, h4⟩ := h1 k hk; have := hl k' h4; omega⟩
end Gm
namespace Gm
set_option linter.unusedSimpArgs false
set_option linter.unusedVariables false
/-- The steps from couple c (its states: c.s, c.w); a step is written as an arc: f, t: the couple behind it. -/
def stpX (c : Fnl) (OB : List Arc) (x : Arc) : List Arc := if x.o = 0 then [⟨x.t, c.w, x.i, 0, x.w⟩] else (OB.filter fun y => decide (y.i = x.o)).map fun y => ⟨x.t, y.t, x.i, y.o, x.w + y.w⟩
def stpY (c : Fnl) (OB : List Arc) : List Arc := (OB.filter fun y => decide (y.i = 0)).map fun y => ⟨c.s, y.t, 0, y.o, y.w⟩
def stepsOf (a b : Mach) (c : Fnl) : List Arc := (outs a.arcs c.s.toNat).flatMap (stpX c (outs b.arcs c.w.toNat)) ++ stpY c (outs b.arcs c.w.toNat)
def toC (st : Arc) : Fnl := ⟨st.f, st.t⟩
def encC (b : Mach) (c : Fnl) : Int := enc b.n c.s c.w
def inC (a b : Mach) (c : Fnl) : Prop := 0 ≤ c.s ∧ c.s < a.n ∧ 0 ≤ c.w ∧ c.w < b.n
theorem encC_inj {a b : Mach} {c d : Fnl} (hc : inC a b c) (hd : inC a b d) (h : encC b c = encC b d) : c = d := by
  obtain ⟨e1, e2⟩ := enc_inj hc.2.2.1 hc.2.2.2 hd.2.2.1 hd.2.2.2 h
  exact Fnl.ext' e1 e2
theorem encC_rng {a b : Mach} {c : Fnl} (hc : inC a b c) : 0 ≤ encC b c ∧ encC b c < a.n * b.n := enc_rng hc.1 hc.2.1 hc.2.2.1 hc.2.2.2
theorem flatMap_if {α β : Type} {g h : α → List β} {q : α → Bool} : ∀ {l : List α}, (∀ x ∈ l, g x = if q x = true then h x else []) → l.flatMap g = (l.filter q).flatMap h
  | [], _ => rfl
  | x :: l, e => by
    rw [List.flatMap_cons, e x (by simp), flatMap_if (fun y hy => e y (by simp [hy]))]
    by_cases hq : q x = true
    · rw [if_pos hq, List.filter_cons_of_pos hq, List.flatMap_cons]
    · rw [if_neg hq, List.filter_cons_of_neg hq]; rfl
theorem filter_range_one {α : Type} {g : Nat → α} {p : α → Bool} {k : Nat} : ∀ (n : Nat), (∀ q, q < n → p (g q) = decide (q = k)) → ((List.range n).map g).filter p = if k < n then [g k] else []
  | 0, _ => rfl
  | n + 1, e => by
    rw [List.range_succ, List.map_append, List.filter_append, filter_range_one n (fun q hq => e q (by omega))]
    have h1 := e n (by omega)
    by_cases h : n = k
    · subst h
      rw [if_neg (by omega), if_pos (by omega)]
      simp [h1]
    · by_cases h2 : k < n
      · rw [if_pos h2, if_pos (by omega)]
        simp [h1, h]
      · rw [if_neg h2, if_neg (by omega)]
        simp [h1, h]
theorem filter_nil_of {α : Type} {l : List α} {p : α → Bool} (h : ∀ x ∈ l, p x = false) : l.filter p = [] := List.filter_eq_nil_iff.2 fun x hx => by rw [h x hx]; simp
theorem outs_prod {a b : Mach} (ha : Rng a) (hb : Rng b) {c : Fnl} (hc : inC a b c) :
    outs (prodArcs a b) (encC b c).toNat = (stepsOf a b c).map fun st => ⟨encC b c, encC b (toC st), st.i, st.o, st.w⟩ := by
  have he := encC_rng hc
  have hcast : (((encC b c).toNat : Nat) : Int) = encC b c := by omega
  have hs : ((c.s.toNat : Nat) : Int) = c.s := by have := hc.1; omega
  have hw : ((c.w.toNat : Nat) : Int) = c.w := by have := hc.2.2.1; omega
  unfold outs stepsOf prodArcs
  rw [List.filter_append, List.map_append, List.filter_flatMap, List.filter_flatMap, List.map_flatMap]
  simp only [hcast]
  congr 1
  · unfold outs
    simp only [hs, hw]
    rw [flatMap_if (q := fun x => decide (x.f = c.s)) (h := fun x => (stpX c (b.arcs.filter fun y => decide (y.f = c.w)) x).map fun st => ⟨encC b c, encC b (toC st), st.i, st.o, st.w⟩)]
    intro x hx
    have hr := ha.arc x hx
    unfold prodX stpX
    by_cases hf : x.f = c.s
    · rw [if_pos (decide_eq_true hf)]
      by_cases ho : x.o = 0
      · rw [if_pos ho, if_pos ho, filter_range_one (k := c.w.toNat) _ (fun q hq => ?_), if_pos (by have := hc.2.2; omega)]
        · simp only [List.map_cons, List.map_nil, prodL, hw, hf, encC, toC]
        · rw [Bool.eq_iff_iff, decide_eq_true_eq, decide_eq_true_eq]
          constructor
          · intro e
            have := (enc_inj (p := x.f) (q := (q : Int)) (by omega) (by omega) hc.2.2.1 hc.2.2.2 e).2
            omega
          · intro e
            show enc b.n x.f (q : Int) = enc b.n c.s c.w
            rw [e, hw, hf]
      · rw [if_neg ho, if_neg ho, List.filter_map, List.map_map]
        have e1 : (List.filter ((fun z : Arc => decide (z.f = encC b c)) ∘ prodA b.n x) (b.arcs.filter fun y => decide (y.i = x.o))) = (b.arcs.filter fun y => decide (y.f = c.w)).filter fun y => decide (y.i = x.o) := by
          rw [List.filter_filter, List.filter_filter]
          refine List.filter_congr fun y hy => ?_
          have hr' := hb.arc y hy
          have : decide ((prodA b.n x y).f = encC b c) = decide (y.f = c.w) := by
            rw [Bool.eq_iff_iff, decide_eq_true_eq, decide_eq_true_eq]
            constructor
            · intro e; exact (enc_inj (p := x.f) (q := y.f) (by omega) (by omega) hc.2.2.1 hc.2.2.2 e).2
            · intro e; show enc b.n x.f y.f = enc b.n c.s c.w; rw [e, hf]
          show (decide ((prodA b.n x y).f = encC b c) && decide (y.i = x.o)) = _
          rw [this, Bool.and_comm]
        rw [e1]
        refine List.map_congr_left fun y hy => ?_
        have hyf : y.f = c.w := of_decide_eq_true (List.mem_filter.1 (List.mem_filter.1 hy).1).2
        simp only [Function.comp, prodA, encC, toC, hf, hyf]
    · rw [if_neg (show ¬ decide (x.f = c.s) = true by simpa using hf)]
      refine filter_nil_of fun z hz => decide_eq_false fun e => hf ?_
      by_cases ho : x.o = 0
      · rw [if_pos ho] at hz
        obtain ⟨q, hq, rfl⟩ := List.mem_map.1 hz
        have hq := List.mem_range.1 hq
        exact (enc_inj (p := x.f) (q := (q : Int)) (by omega) (by omega) hc.2.2.1 hc.2.2.2 e).1
      · rw [if_neg ho] at hz
        obtain ⟨y, hy, rfl⟩ := List.mem_map.1 hz
        have hr' := hb.arc y (List.mem_filter.1 hy).1
        exact (enc_inj (p := x.f) (q := y.f) (by omega) (by omega) hc.2.2.1 hc.2.2.2 e).1
  · unfold stpY outs
    simp only [hs, hw]
    rw [List.map_map, List.filter_filter, flatMap_if (q := fun y => decide (y.i = 0) && decide (y.f = c.w)) (h := fun y => [⟨encC b c, enc b.n c.s y.t, 0, y.o, y.w⟩])]
    · rw [List.flatMap_def]
      have : ∀ (l : List Arc) (g : Arc → Arc), (l.map fun y => [g y]).flatten = l.map g := fun l g => by induction l with | nil => rfl | cons y l ih => simp [ih]
      rw [this]
      rfl
    · intro y hy
      have hr' := hb.arc y hy
      unfold prodY
      by_cases hi : y.i = 0
      · rw [if_pos hi]
        by_cases hf : y.f = c.w
        · rw [if_pos (by simp [hi, hf]), filter_range_one (k := c.s.toNat) _ (fun p hp => ?_), if_pos (by have := hc.2.1; have := hc.1; omega)]
          · simp only [prodR, hs, hf, encC]
          · rw [Bool.eq_iff_iff, decide_eq_true_eq, decide_eq_true_eq]
            constructor
            · intro e
              have := (enc_inj (p := (p : Int)) (q := y.f) (by omega) (by omega) hc.2.2.1 hc.2.2.2 e).1
              omega
            · intro e
              show enc b.n (p : Int) y.f = enc b.n c.s c.w
              rw [e, hs, hf]
        · rw [if_neg (by simp [hf])]
          refine filter_nil_of fun z hz => decide_eq_false fun e => hf ?_
          obtain ⟨p, hp, rfl⟩ := List.mem_map.1 hz
          exact (enc_inj (p := (p : Int)) (q := y.f) (by omega) (by omega) hc.2.2.1 hc.2.2.2 e).2
      · rw [if_neg hi, if_neg (by simp [hi])]; rfl
theorem mem_outs {l : List Arc} {s : Nat} {z : Arc} : z ∈ outs l s ↔ z ∈ l ∧ z.f = (s : Int) := by
  unfold outs; rw [List.mem_filter, decide_eq_true_eq]
section
variable {a b : Mach} (ha : Rng a) (hb : Rng b)
include ha hb
theorem step_arc {c : Fnl} (hc : inC a b c) {st : Arc} (h : st ∈ stepsOf a b c) : (⟨encC b c, encC b (toC st), st.i, st.o, st.w⟩ : Arc) ∈ prodArcs a b := by
  have : (⟨encC b c, encC b (toC st), st.i, st.o, st.w⟩ : Arc) ∈ outs (prodArcs a b) (encC b c).toNat := by rw [outs_prod ha hb hc]; exact List.mem_map.2 ⟨st, h, rfl⟩
  exact (mem_outs.1 this).1
theorem arc_step {c : Fnl} (hc : inC a b c) {z : Arc} (h : z ∈ prodArcs a b) (hf : z.f = encC b c) : ∃ st ∈ stepsOf a b c, z = ⟨encC b c, encC b (toC st), st.i, st.o, st.w⟩ := by
  have he := encC_rng hc
  have : z ∈ outs (prodArcs a b) (encC b c).toNat := mem_outs.2 ⟨h, by omega⟩
  rw [outs_prod ha hb hc] at this
  obtain ⟨st, h1, h2⟩ := List.mem_map.1 this
  exact ⟨st, h1, h2.symm⟩
theorem step_in {c : Fnl} (hc : inC a b c) {st : Arc} (h : st ∈ stepsOf a b c) : inC a b (toC st) := by
  unfold stepsOf at h
  rcases List.mem_append.1 h with h | h
  · obtain ⟨x, hx, hst⟩ := List.mem_flatMap.1 h
    have hr := ha.arc x (mem_outs.1 hx).1
    unfold stpX at hst
    by_cases ho : x.o = 0
    · rw [if_pos ho] at hst
      rw [List.mem_singleton.1 hst]
      exact ⟨hr.2.2.1, hr.2.2.2, hc.2.2.1, hc.2.2.2⟩
    · rw [if_neg ho] at hst
      obtain ⟨y, hy, rfl⟩ := List.mem_map.1 hst
      have hr' := hb.arc y (mem_outs.1 (List.mem_filter.1 hy).1).1
      exact ⟨hr.2.2.1, hr.2.2.2, hr'.2.2.1, hr'.2.2.2⟩
  · obtain ⟨y, hy, rfl⟩ := List.mem_map.1 h
    have hr' := hb.arc y (mem_outs.1 (List.mem_filter.1 hy).1).1
    exact ⟨hc.1, hc.2.1, hr'.2.2.1, hr'.2.2.2⟩
theorem step_reach {c : Fnl} (hc : inC a b c) (hr : RS false (prodArcs a b) [0] (encC b c)) {st : Arc} (h : st ∈ stepsOf a b c) : RS false (prodArcs a b) [0] (encC b (toC st)) :=
  .step hr (step_arc ha hb hc h) rfl rfl
end
/-! sums over lists without repetition -/
theorem sum_erase {α : Type} [DecidableEq α] (f : α → Nat) {x : α} : ∀ {l : List α}, x ∈ l → (l.map f).sum = f x + ((l.erase x).map f).sum
  | [], h => by cases h
  | y :: l, h => by
    by_cases e : y = x
    · subst e; simp
    · rcases List.mem_cons.1 h with h | h
      · exact absurd h.symm e
      · rw [List.erase_cons_tail (by simpa using e)]
        simp only [List.map_cons, List.sum_cons]
        rw [sum_erase f h]; omega
theorem sum_sub {α : Type} [DecidableEq α] (f : α → Nat) : ∀ {l k : List α}, l.Nodup → (∀ x ∈ l, x ∈ k) → (l.map f).sum ≤ (k.map f).sum
  | [], _, _, _ => by simp
  | x :: l, k, hn, hs => by
    have h' := List.nodup_cons.1 hn
    rw [sum_erase f (hs x (by simp)), List.map_cons, List.sum_cons]
    have := sum_sub f (l := l) (k := k.erase x) h'.2 (fun y hy => by
      refine (List.mem_erase_of_ne ?_).2 (hs y (by simp [hy]))
      rintro rfl
      exact h'.1 hy)
    omega
theorem len_sub {α : Type} [DecidableEq α] {l k : List α} (hn : l.Nodup) (hs : ∀ x ∈ l, x ∈ k) : l.length ≤ k.length := by
  have := sum_sub (fun _ => 1) hn hs
  have e : ∀ l : List α, (l.map fun _ => 1).sum = l.length := fun l => by induction l with | nil => rfl | cons x l ih => simp only [List.map_cons, List.sum_cons, List.length_cons, ih]; omega
  rw [e, e] at this; exact this
/-- All couples. -/
def allC (a b : Mach) : List Fnl := (List.range a.n.toNat).flatMap fun p : Nat => (List.range b.n.toNat).map fun q : Nat => ⟨(p : Int), (q : Int)⟩
theorem mem_allC {a b : Mach} {c : Fnl} : c ∈ allC a b ↔ inC a b c := by
  unfold allC
  rw [List.mem_flatMap]
  constructor
  · rintro ⟨p, hp, hc⟩
    obtain ⟨q, hq, rfl⟩ := List.mem_map.1 hc
    have := List.mem_range.1 hp
    have := List.mem_range.1 hq
    exact ⟨by show (0 : Int) ≤ (p : Int); omega, by show (p : Int) < _; omega, by show (0 : Int) ≤ (q : Int); omega, by show (q : Int) < _; omega⟩
  · rintro ⟨h1, h2, h3, h4⟩
    refine ⟨c.s.toNat, List.mem_range.2 (by omega), List.mem_map.2 ⟨c.w.toNat, List.mem_range.2 (by omega), ?_⟩⟩
    exact Fnl.ext' (by show ((c.s.toNat : Nat) : Int) = c.s; omega) (by show ((c.w.toNat : Nat) : Int) = c.w; omega)
theorem allC_len (a b : Mach) : (allC a b).length = a.n.toNat * b.n.toNat := by
  unfold allC
  rw [List.length_flatMap]
  simp [List.map_const', List.sum_replicate_nat]
/-- Couples in order. -/
def cLt (c d : Fnl) : Prop := c.s < d.s ∨ (c.s = d.s ∧ c.w < d.w)
theorem allC_sorted (a b : Mach) : (allC a b).Pairwise cLt := by
  unfold allC
  refine List.pairwise_flatMap.2 ⟨fun p hp => List.pairwise_map.2 (List.pairwise_lt_range.imp fun {x y} h => .inr ⟨rfl, by show (x : Int) < (y : Int); omega⟩), ?_⟩
  refine List.pairwise_lt_range.imp ?_
  intro p p' h c hc d hd
  obtain ⟨q, _, rfl⟩ := List.mem_map.1 hc
  obtain ⟨q', _, rfl⟩ := List.mem_map.1 hd
  exact .inl (by show (p : Int) < (p' : Int); omega)
theorem cLt_irrefl (c : Fnl) : ¬ cLt c c := by unfold cLt; omega
theorem cLt_nodup {l : List Fnl} (h : l.Pairwise cLt) : l.Nodup := h.imp fun {x y} hlt e => by subst e; exact cLt_irrefl x hlt
theorem cLt_trans {c d e : Fnl} (h1 : cLt c d) (h2 : cLt d e) : cLt c e := by unfold cLt at *; omega
theorem cLt_total (c d : Fnl) : cLt c d ∨ c = d ∨ cLt d c := by
  unfold cLt
  rcases Int.lt_trichotomy c.s d.s with h | h | h
  · exact .inl (.inl h)
  · rcases Int.lt_trichotomy c.w d.w with h2 | h2 | h2
    · exact .inl (.inr ⟨h, h2⟩)
    · exact .inr (.inl (Fnl.ext' h h2))
    · exact .inr (.inr (.inr ⟨h.symm, h2⟩))
  · exact .inr (.inr (.inl h))
theorem cLt_uniq : ∀ {l k : List Fnl}, l.Pairwise cLt → k.Pairwise cLt → (∀ x, x ∈ l ↔ x ∈ k) → l = k
  | [], [], _, _, _ => rfl
  | [], y :: k, _, _, h => by have := (h y).2 (by simp); cases this
  | x :: l, [], _, _, h => by have := (h x).1 (by simp); cases this
  | x :: l, y :: k, hl, hk, h => by
    have hl' := List.pairwise_cons.1 hl
    have hk' := List.pairwise_cons.1 hk
    have e : x = y := by
      rcases cLt_total x y with g | g | g
      · have := (h x).1 (by simp)
        rcases List.mem_cons.1 this with e | hm
        · exact e
        · exact absurd (cLt_trans g (hk'.1 x hm)) (cLt_irrefl x)
      · exact g
      · have := (h y).2 (by simp)
        rcases List.mem_cons.1 this with e | hm
        · exact e.symm
        · exact absurd (cLt_trans g (hl'.1 y hm)) (cLt_irrefl y)
    subst e
    congr 1
    refine cLt_uniq hl'.2 hk'.2 fun z => ?_
    constructor
    · intro hz
      rcases List.mem_cons.1 ((h z).1 (by simp [hz])) with e | hm
      · subst e; exact absurd (hl'.1 z hz) (cLt_irrefl z)
      · exact hm
    · intro hz
      rcases List.mem_cons.1 ((h z).2 (by simp [hz])) with e | hm
      · subst e; exact absurd (hk'.1 z hz) (cLt_irrefl z)
      · exact hm
open Classical in
/-- The couples that are reached. -/
noncomputable def reachL (a b : Mach) : List Fnl := (allC a b).filter fun c => decide (RS false (prodArcs a b) [0] (encC b c))
theorem mem_reachL {a b : Mach} {c : Fnl} : c ∈ reachL a b ↔ inC a b c ∧ RS false (prodArcs a b) [0] (encC b c) := by
  unfold reachL
  rw [List.mem_filter, mem_allC]
  simp
theorem reachL_nodup (a b : Mach) : (reachL a b).Nodup := (cLt_nodup (allC_sorted a b)).filter _
def totL (a b : Mach) (D : List Fnl) : Nat := (D.map fun c => (stepsOf a b c).length).sum
/-- How many steps there are from couples that are reached. -/
noncomputable def total (a b : Mach) : Nat := totL a b (reachL a b)
theorem totL_snoc (a b : Mach) (D : List Fnl) (c : Fnl) : totL a b (D ++ [c]) = totL a b D + (stepsOf a b c).length := by
  unfold totL; simp
/-- What the search keeps: D: done, T: still to do. -/
structure XI (a b : Mach) (D T : List Fnl) : Prop where
  nd : (D ++ T).Nodup
  rch : ∀ c ∈ D ++ T, c ∈ reachL a b
  st : (⟨0, 0⟩ : Fnl) ∈ D ++ T
  cl : ∀ c ∈ D, ∀ s ∈ stepsOf a b c, toC s ∈ D ++ T
/-- .. while the steps of c are looked at, k of them. -/
structure XJ (a b : Mach) (D : List Fnl) (c : Fnl) (T : List Fnl) (k : Nat) : Prop where
  nd : (D ++ c :: T).Nodup
  rch : ∀ d ∈ D ++ c :: T, d ∈ reachL a b
  st : (⟨0, 0⟩ : Fnl) ∈ D ++ c :: T
  cl : ∀ d ∈ D, ∀ s ∈ stepsOf a b d, toC s ∈ D ++ c :: T
  now : ∀ s ∈ (stepsOf a b c).take k, toC s ∈ D ++ c :: T
section
variable {a b : Mach}
theorem XI.start (ha0 : 0 < a.n) (hb0 : 0 < b.n) : XI a b [] [⟨0, 0⟩] where
  nd := by simp
  rch := fun c hc => by
    have : c = ⟨0, 0⟩ := by simpa using hc
    subst this
    exact mem_reachL.2 ⟨⟨Int.le_refl _, ha0, Int.le_refl _, hb0⟩, .base (by simp [encC, enc])⟩
  st := by simp
  cl := fun c hc => by cases hc
theorem XI.le {D T : List Fnl} (h : XI a b D T) : totL a b D ≤ total a b :=
  sum_sub _ (List.nodup_append.1 h.nd).1 fun x hx => h.rch x (List.mem_append_left _ hx)
theorem XI.len {D T : List Fnl} (h : XI a b D T) : D.length + T.length ≤ a.n.toNat * b.n.toNat := by
  rw [← List.length_append, ← allC_len]
  exact len_sub h.nd fun x hx => mem_allC.2 (mem_reachL.1 (h.rch x hx)).1
theorem XI.pop {D T : List Fnl} {c : Fnl} (h : XI a b D (T ++ [c])) : XJ a b D c T 0 where
  nd := by
    refine ((List.perm_append_left_iff D).2 ?_).nodup_iff.1 h.nd
    exact List.perm_append_singleton c T
  rch := fun d hd => h.rch d (by simp at hd ⊢; rcases hd with h | h | h <;> simp [h])
  st := by have := h.st; simp only [List.mem_append, List.mem_cons, List.mem_singleton, List.not_mem_nil, or_false] at this ⊢; rcases this with g | g | g <;> first | exact .inl g | exact .inr (.inr g) | exact .inr (.inl g)
  cl := fun d hd s hs => by have := h.cl d hd s hs; simp only [List.mem_append, List.mem_cons, List.mem_singleton, List.not_mem_nil, or_false] at this ⊢; rcases this with g | g | g <;> first | exact .inl g | exact .inr (.inr g) | exact .inr (.inl g)
  now := by simp
theorem take_mem {l : List Arc} {k : Nat} {s : Arc} (hk : k < l.length) (hs : l.getD k dA = s) {x : Arc} (hx : x ∈ l.take (k + 1)) : x ∈ l.take k ∨ x = s := by
  rw [List.take_succ_eq_append_getElem hk] at hx
  rcases List.mem_append.1 hx with h | h
  · exact .inl h
  · right
    rw [List.mem_singleton.1 h, ← hs]; simp [hk]
theorem XJ.skip {D T : List Fnl} {c : Fnl} {k : Nat} {s : Arc} (h : XJ a b D c T k) (hk : k < (stepsOf a b c).length) (hs : (stepsOf a b c).getD k dA = s) (hin : toC s ∈ D ++ c :: T) : XJ a b D c T (k + 1) where
  nd := h.nd
  rch := h.rch
  st := h.st
  cl := h.cl
  now := fun x hx => by
    rcases take_mem hk hs hx with h1 | rfl
    · exact h.now x h1
    · exact hin
theorem XJ.push (ha : Rng a) (hb : Rng b) {D T : List Fnl} {c : Fnl} {k : Nat} {s : Arc} (h : XJ a b D c T k) (hk : k < (stepsOf a b c).length) (hs : (stepsOf a b c).getD k dA = s) (hin : toC s ∉ D ++ c :: T) : XJ a b D c (T ++ [toC s]) (k + 1) where
  nd := by
    rw [show D ++ c :: (T ++ [toC s]) = (D ++ c :: T) ++ [toC s] by simp]
    refine List.nodup_append.2 ⟨h.nd, by simp, fun x hx y hy e => ?_⟩
    rw [List.mem_singleton.1 hy] at e
    exact hin (e ▸ hx)
  rch := fun d hd => by
    rw [show D ++ c :: (T ++ [toC s]) = (D ++ c :: T) ++ [toC s] by simp] at hd
    rcases List.mem_append.1 hd with hd | hd
    · exact h.rch d hd
    · rw [List.mem_singleton.1 hd]
      obtain ⟨h1, h2⟩ := mem_reachL.1 (h.rch c (by simp))
      have hm : s ∈ stepsOf a b c := by rw [← hs]; simp [hk]
      exact mem_reachL.2 ⟨step_in ha hb h1 hm, step_reach ha hb h1 h2 hm⟩
  st := by have := h.st; simp only [List.mem_append, List.mem_cons, List.mem_singleton, List.not_mem_nil, or_false] at this ⊢; rcases this with g | g | g <;> first | exact .inl g | exact .inr (.inl g) | exact .inr (.inr (.inl g))
  cl := fun d hd x hx => by have := h.cl d hd x hx; simp only [List.mem_append, List.mem_cons, List.mem_singleton, List.not_mem_nil, or_false] at this ⊢; rcases this with g | g | g <;> first | exact .inl g | exact .inr (.inl g) | exact .inr (.inr (.inl g))
  now := fun x hx => by
    rcases take_mem hk hs hx with h1 | rfl
    · have := h.now x h1; simp only [List.mem_append, List.mem_cons, List.mem_singleton, List.not_mem_nil, or_false] at this ⊢; rcases this with g | g | g <;> first | exact .inl g | exact .inr (.inl g) | exact .inr (.inr (.inl g))
    · simp
theorem XJ.done {D T : List Fnl} {c : Fnl} {k : Nat} (h : XJ a b D c T k) (hk : (stepsOf a b c).length ≤ k) : XI a b (D ++ [c]) T where
  nd := by have := h.nd; simpa using this
  rch := fun d hd => h.rch d (by simpa using hd)
  st := by have := h.st; simpa using this
  cl := fun d hd s hs => by
    rcases List.mem_append.1 hd with hd | hd
    · have := h.cl d hd s hs; simpa using this
    · rw [List.mem_singleton.1 hd] at hs
      have := h.now s (by rw [List.take_of_length_le hk]; exact hs)
      simpa using this
theorem XI.closed (ha : Rng a) (hb : Rng b) {D : List Fnl} (h : XI a b D []) {s : Int} (hr : RS false (prodArcs a b) [0] s) : ∃ c ∈ D, encC b c = s := by
  have hD : ∀ {c : Fnl}, c ∈ D ++ [] → c ∈ D := fun hc => by simpa using hc
  induction hr with
  | @base s hs =>
    have e : s = 0 := by simpa using hs
    subst e
    exact ⟨⟨0, 0⟩, hD h.st, by simp [encC, enc]⟩
  | @step s t z _ hz hk hv ih =>
    obtain ⟨c, hc, rfl⟩ := ih
    have hin := (mem_reachL.1 (h.rch c (by simp [hc]))).1
    obtain ⟨st, h1, rfl⟩ := arc_step ha hb hin hz hk
    exact ⟨toC st, hD (h.cl c hc st h1), hv⟩
theorem XI.all (ha : Rng a) (hb : Rng b) {D : List Fnl} (h : XI a b D []) {c : Fnl} : c ∈ D ↔ c ∈ reachL a b := by
  constructor
  · intro hc; exact h.rch c (by simp [hc])
  · intro hc
    obtain ⟨h1, h2⟩ := mem_reachL.1 hc
    obtain ⟨d, hd, e⟩ := h.closed ha hb h2
    have hin := (mem_reachL.1 (h.rch d (by simp [hd]))).1
    rw [← encC_inj hin h1 e]; exact hd
theorem XI.total (ha : Rng a) (hb : Rng b) {D : List Fnl} (h : XI a b D []) : totL a b D = total a b := by
  refine Nat.le_antisymm h.le (sum_sub _ (reachL_nodup a b) fun x hx => (h.all ha hb).2 hx)
end
end Gm
namespace Gm
set_option linter.unusedSimpArgs false
set_option linter.unusedVariables false
/-- From which couples there is a step to k, by a list of steps (from, to). -/
def bk (E : List (Fnl × Fnl)) (k : Fnl) : List Fnl := (E.filter fun e => decide (e.2 = k)).map (·.1)
theorem mem_bk {E : List (Fnl × Fnl)} {k c : Fnl} : c ∈ bk E k ↔ (c, k) ∈ E := by
  unfold bk
  rw [List.mem_map]
  constructor
  · rintro ⟨⟨x, y⟩, h, rfl⟩
    obtain ⟨h1, h2⟩ := List.mem_filter.1 h
    have : y = k := of_decide_eq_true h2
    subst this; exact h1
  · intro h; exact ⟨(c, k), List.mem_filter.2 ⟨h, decide_eq_true rfl⟩, rfl⟩
theorem bk_len (E : List (Fnl × Fnl)) (k : Fnl) : (bk E k).length ≤ E.length := by
  unfold bk; rw [List.length_map]; exact List.length_filter_le _ _
theorem bk_snoc (E : List (Fnl × Fnl)) (c k x : Fnl) : bk (E ++ [(c, k)]) x = if x = k then bk E x ++ [c] else bk E x := by
  unfold bk
  rw [List.filter_append, List.map_append]
  by_cases h : x = k
  · subst h; simp
  · rw [if_neg h, List.filter_cons_of_neg (by simpa using fun e : k = x => h e.symm)]; simp
/-- The steps of one couple, as pairs. -/
def edg (c : Fnl) (l : List Arc) : List (Fnl × Fnl) := l.map fun s => (c, toC s)
theorem edg_take {c : Fnl} {l : List Arc} {k : Nat} {s : Arc} (hk : k < l.length) (hs : l.getD k dA = s) : edg c (l.take (k + 1)) = edg c (l.take k) ++ [(c, toC s)] := by
  unfold edg
  have e : l[k] = s := by rw [← hs]; simp [hk]
  rw [List.take_succ_eq_append_getElem hk, e, List.map_append]; rfl
theorem edg_len (c : Fnl) (l : List Arc) : (edg c l).length = l.length := by unfold edg; simp
/-- The steps that are gathered, while the couples Q are still to come. -/
structure EI (a b : Mach) (E : List (Fnl × Fnl)) (Q : List Fnl) : Prop where
  snd : ∀ e ∈ E, e.1 ∈ reachL a b ∧ ∃ s ∈ stepsOf a b e.1, toC s = e.2
  all : ∀ c ∈ reachL a b, c ∉ Q → ∀ s ∈ stepsOf a b c, (c, toC s) ∈ E
  len : E.length + totL a b Q ≤ total a b
  nd : Q.Nodup
  sub : ∀ c ∈ Q, c ∈ reachL a b
section
variable {a b : Mach}
theorem EI.start {Q : List Fnl} (hn : Q.Nodup) (h : ∀ c, c ∈ Q ↔ c ∈ reachL a b) : EI a b [] Q where
  snd := fun e he => by cases he
  all := fun c hc hq => absurd ((h c).2 hc) hq
  len := by simp only [List.length_nil, Nat.zero_add]; exact sum_sub _ hn fun x hx => (h x).1 hx
  nd := hn
  sub := fun c hc => (h c).1 hc
theorem totL_mid (a b : Mach) (Q1 Q2 : List Fnl) (c : Fnl) : totL a b (Q1 ++ c :: Q2) = (stepsOf a b c).length + totL a b (Q1 ++ Q2) := by
  unfold totL; simp; omega
theorem EI.step {E : List (Fnl × Fnl)} {Q1 Q2 : List Fnl} {c : Fnl} (h : EI a b E (Q1 ++ c :: Q2)) : EI a b (E ++ edg c (stepsOf a b c)) (Q1 ++ Q2) where
  snd := fun e he => by
    rcases List.mem_append.1 he with he | he
    · exact h.snd e he
    · obtain ⟨s, hs, rfl⟩ := List.mem_map.1 he
      exact ⟨h.sub c (by simp), s, hs, rfl⟩
  all := fun d hd hq s hs => by
    by_cases e : d = c
    · subst e
      exact List.mem_append_right _ (List.mem_map.2 ⟨s, hs, rfl⟩)
    · refine List.mem_append_left _ (h.all d hd (fun hm => ?_) s hs)
      rcases List.mem_append.1 hm with hm | hm
      · exact hq (List.mem_append_left _ hm)
      · rcases List.mem_cons.1 hm with hm | hm
        · exact e hm
        · exact hq (List.mem_append_right _ hm)
  len := by
    have := h.len
    rw [totL_mid] at this
    rw [List.length_append, edg_len]
    omega
  nd := by
    have := h.nd
    rw [List.nodup_append] at this ⊢
    obtain ⟨h1, h2, h3⟩ := this
    exact ⟨h1, (List.nodup_cons.1 h2).2, fun x hx y hy => h3 x hx y (by simp [hy])⟩
  sub := fun d hd => h.sub d (by
    rcases List.mem_append.1 hd with hd | hd
    · exact List.mem_append_left _ hd
    · exact List.mem_append_right _ (by simp [hd]))
/-- The couples that are on a path. -/
def KeepC (a b : Mach) (c : Fnl) : Prop := c ∈ reachL a b ∧ RS true (prodArcs a b) (finStates (prodFins a b)) (encC b c)
open Classical in
noncomputable def keepL (a b : Mach) : List Fnl := (allC a b).filter fun c => decide (KeepC a b c)
theorem mem_keepL {c : Fnl} : c ∈ keepL a b ↔ KeepC a b c := by
  unfold keepL
  simp only [List.mem_filter, mem_allC, decide_eq_true_eq]
  exact ⟨fun h => h.2, fun h => ⟨(mem_reachL.1 h.1).1, h⟩⟩
theorem keepL_sorted (a b : Mach) : (keepL a b).Pairwise cLt := (allC_sorted a b).filter _
/-- The search: D: seen, T: still to look at; F: where it starts. -/
structure UI (a b : Mach) (E : List (Fnl × Fnl)) (F D T : List Fnl) : Prop where
  nd : D.Nodup
  kp : ∀ c ∈ D ++ T, KeepC a b c
  fin : ∀ c ∈ F, c ∈ D ++ T
  cl : ∀ d ∈ D, ∀ c ∈ bk E d, c ∈ D ++ T
theorem KeepC.back (ha : Rng a) (hb : Rng b) {E : List (Fnl × Fnl)} (hE : EI a b E []) {d c : Fnl} (hd : KeepC a b d) (hc : c ∈ bk E d) : KeepC a b c := by
  obtain ⟨h1, s, hs, h2⟩ := hE.snd _ (mem_bk.1 hc)
  dsimp only at h1 h2 hs
  have hin := (mem_reachL.1 h1).1
  refine ⟨h1, .step (a := ⟨encC b c, encC b (toC s), s.i, s.o, s.w⟩) hd.2 (step_arc ha hb hin hs) ?_ rfl⟩
  show encC b (toC s) = encC b d
  rw [h2]
theorem UI.skip {E : List (Fnl × Fnl)} {F D T : List Fnl} {d : Fnl} (h : UI a b E F D (T ++ [d])) (hd : d ∈ D) : UI a b E F D T where
  nd := h.nd
  kp := fun c hc => h.kp c (by rcases List.mem_append.1 hc with g | g <;> simp [g])
  fin := fun c hc => by have := h.fin c hc; simp at this ⊢; rcases this with g | g | g <;> first | exact .inl g | exact .inr g | (subst g; exact .inl hd)
  cl := fun e he c hc => by have := h.cl e he c hc; simp at this ⊢; rcases this with g | g | g <;> first | exact .inl g | exact .inr g | (subst g; exact .inl hd)
theorem UI.take (ha : Rng a) (hb : Rng b) {E : List (Fnl × Fnl)} (hE : EI a b E []) {F D T : List Fnl} {d : Fnl} (h : UI a b E F D (T ++ [d])) (hd : d ∉ D) : UI a b E F (D ++ [d]) (T ++ bk E d) where
  nd := by
    refine List.nodup_append.2 ⟨h.nd, by simp, fun x hx y hy e => ?_⟩
    rw [List.mem_singleton.1 hy] at e
    exact hd (e ▸ hx)
  kp := fun c hc => by
    simp only [List.mem_append, List.mem_singleton] at hc
    rcases hc with (g | g) | (g | g)
    · exact h.kp c (by simp [g])
    · exact h.kp c (by simp [g])
    · exact h.kp c (by simp [g])
    · exact (h.kp d (by simp)).back ha hb hE g
  fin := fun c hc => by have := h.fin c hc; simp at this ⊢; rcases this with g | g | g <;> simp [g]
  cl := fun e he c hc => by
    rcases List.mem_append.1 he with he | he
    · have := h.cl e he c hc; simp at this ⊢; rcases this with g | g | g <;> simp [g]
    · rw [List.mem_singleton.1 he] at hc
      simp [hc]
theorem UI.room {E : List (Fnl × Fnl)} {F D T : List Fnl} (h : UI a b E F D T) : D.length ≤ a.n.toNat * b.n.toNat := by
  rw [← allC_len]
  exact len_sub h.nd fun x hx => mem_allC.2 (mem_reachL.1 (h.kp x (by simp [hx])).1).1
/-- At the end: all that are on a path, and no others. -/
theorem UI.all (ha : Rng a) (hb : Rng b) {E : List (Fnl × Fnl)} (hE : EI a b E []) {F D : List Fnl} (h : UI a b E F D []) (hF : ∀ x ∈ a.fins, ∀ y ∈ b.fins, (⟨x.s, y.s⟩ : Fnl) ∈ reachL a b → (⟨x.s, y.s⟩ : Fnl) ∈ F) {c : Fnl} : c ∈ D ↔ KeepC a b c := by
  constructor
  · intro hc; exact h.kp c (by simp [hc])
  · rintro ⟨h1, h2⟩
    obtain ⟨s, hs⟩ : ∃ s, s = encC b c := ⟨_, rfl⟩
    rw [← hs] at h2
    induction h2 generalizing c with
    | @base s hm =>
      obtain ⟨z, hz, hz2⟩ := List.mem_map.1 hm
      obtain ⟨x, hx, y, hy, rfl⟩ := mem_prodF.1 hz
      have hx' := ha.fin x hx
      have hy' := hb.fin y hy
      have hin := (mem_reachL.1 h1).1
      have e : (⟨x.s, y.s⟩ : Fnl) = c := encC_inj (a := a) (b := b) ⟨hx'.1, hx'.2, hy'.1, hy'.2⟩ hin (by rw [← hs, ← hz2]; rfl)
      have := h.fin c (by rw [← e]; exact hF x hx y hy (by rw [e]; exact h1))
      simpa using this
    | @step s t z _ hz hk hv ih =>
      have hin := (mem_reachL.1 h1).1
      have hf : z.f = encC b c := by rw [← hs]; exact hv
      obtain ⟨st, hst, rfl⟩ := arc_step ha hb hin hz hf
      have hr := step_reach ha hb hin (mem_reachL.1 h1).2 hst
      have hin2 := step_in ha hb hin hst
      have hd := ih (mem_reachL.2 ⟨hin2, hr⟩) (by rw [← hk]; rfl)
      have := h.cl _ hd c (mem_bk.2 (hE.all c h1 (by simp) st hst))
      simpa using this
theorem KeepC.fin (ha : Rng a) (hb : Rng b) {x y : Fnl} (hx : x ∈ a.fins) (hy : y ∈ b.fins) (h : (⟨x.s, y.s⟩ : Fnl) ∈ reachL a b) : KeepC a b ⟨x.s, y.s⟩ :=
  ⟨h, .base (List.mem_map.2 ⟨_, mem_prodF.2 ⟨x, hx, y, hy, rfl⟩, rfl⟩)⟩
/-- A list of just these, in order. -/
theorem keepL_of {l : List Fnl} (hs : l.Pairwise fun c d => ¬ cLt d c) (hn : l.Nodup) (h : ∀ c, c ∈ l ↔ KeepC a b c) : l = keepL a b := by
  refine cLt_uniq ?_ (keepL_sorted a b) fun x => by rw [h x, mem_keepL]
  refine (hs.and hn).imp fun {c d} g => ?_
  rcases cLt_total c d with e | e | e
  · exact e
  · exact absurd e g.2
  · exact absurd e g.1
end
end Gm
namespace Gm
open Go Go.RowKit
set_option linter.unusedSimpArgs false
set_option linter.unusedVariables false
/-- The entries that one final state and a list of others make. -/
def finE (R : Fnl → Bool) (x : Fnl) (ys : List Fnl) : List (Fnl × Value) := (ys.filter fun y => R ⟨x.s, y.s⟩).map fun y => (⟨x.s, y.s⟩, Value.int .i64 (x.w + y.w))
def finsE (R : Fnl → Bool) (xs ys : List Fnl) : List (Fnl × Value) := xs.flatMap fun x => finE R x ys
theorem getDF {l : List Fnl} {k : Nat} {a : Fnl} (hk : k < l.length) (ha : l.getD k dF = a) : l[k] = a := by rw [← ha]; simp [hk]
theorem takeF_snoc {l : List Fnl} {k : Nat} {a : Fnl} (hk : k < l.length) (ha : l.getD k dF = a) : l.take (k + 1) = l.take k ++ [a] := by
  rw [List.take_succ_eq_append_getElem hk, getDF hk ha]
theorem finsE_push {R : Fnl → Bool} {xs ys : List Fnl} {i : Nat} {x : Fnl} (hi : i < xs.length) (hx : xs.getD i dF = x) {j : Nat} (hj : ys.length ≤ j) : finsE R (xs.take (i + 1)) ys = finsE R (xs.take i) ys ++ finE R x (ys.take j) := by
  unfold finsE
  rw [takeF_snoc hi hx, List.flatMap_append, List.take_of_length_le hj]
  simp
theorem finE_yes {R : Fnl → Bool} {x : Fnl} {ys : List Fnl} {j : Nat} {y : Fnl} (hj : j < ys.length) (hy : ys.getD j dF = y) (h : R ⟨x.s, y.s⟩ = true) : finE R x (ys.take (j + 1)) = finE R x (ys.take j) ++ [(⟨x.s, y.s⟩, Value.int .i64 (x.w + y.w))] := by
  unfold finE
  rw [takeF_snoc hj hy, List.filter_append, List.map_append]
  simp [h]
theorem finE_no {R : Fnl → Bool} {x : Fnl} {ys : List Fnl} {j : Nat} {y : Fnl} (hj : j < ys.length) (hy : ys.getD j dF = y) (h : R ⟨x.s, y.s⟩ = false) : finE R x (ys.take (j + 1)) = finE R x (ys.take j) := by
  unfold finE
  rw [takeF_snoc hj hy, List.filter_append, List.map_append]
  simp [h]
theorem mem_finE {R : Fnl → Bool} {x : Fnl} {ys : List Fnl} {p : Fnl × Value} : p ∈ finE R x ys ↔ ∃ y ∈ ys, R ⟨x.s, y.s⟩ = true ∧ p = (⟨x.s, y.s⟩, Value.int .i64 (x.w + y.w)) := by
  unfold finE
  simp only [List.mem_map, List.mem_filter]
  constructor
  · rintro ⟨y, ⟨h1, h2⟩, rfl⟩; exact ⟨y, h1, h2, rfl⟩
  · rintro ⟨y, h1, h2, rfl⟩; exact ⟨y, ⟨h1, h2⟩, rfl⟩
theorem mem_finsE {R : Fnl → Bool} {xs ys : List Fnl} {p : Fnl × Value} : p ∈ finsE R xs ys ↔ ∃ x ∈ xs, ∃ y ∈ ys, R ⟨x.s, y.s⟩ = true ∧ p = (⟨x.s, y.s⟩, Value.int .i64 (x.w + y.w)) := by
  unfold finsE
  simp only [List.mem_flatMap, mem_finE]
theorem upL_new {L : List (Fnl × Value)} {c : Fnl} (h : lk L c = none) (v : Value) : upL L c v = L ++ [(c, v)] := by
  unfold upL; rw [h]; rfl
theorem take_lt {l : List Fnl} (hs : l.Pairwise fun a b => a.s < b.s) {k : Nat} {a z : Fnl} (hk : k < l.length) (ha : l.getD k dF = a) (hz : z ∈ l.take k) : z.s < a.s := by
  obtain ⟨i, hi, rfl⟩ := List.mem_iff_getElem.1 hz
  have hi' : i < k := by rw [List.length_take] at hi; omega
  rw [← getDF hk ha, List.getElem_take]
  exact List.pairwise_iff_getElem.1 hs i k (by omega) hk hi'
/-- A couple that comes is new. -/
theorem fin_fresh {R : Fnl → Bool} {xs ys : List Fnl} (h1 : xs.Pairwise fun a b => a.s < b.s) (h2 : ys.Pairwise fun a b => a.s < b.s) {i j : Nat} {x y : Fnl} (hi : i < xs.length) (hx : xs.getD i dF = x) (hj : j < ys.length) (hy : ys.getD j dF = y) :
    lk (finsE R (xs.take i) ys ++ finE R x (ys.take j)) ⟨x.s, y.s⟩ = none := by
  cases e : lk (finsE R (xs.take i) ys ++ finE R x (ys.take j)) ⟨x.s, y.s⟩ with
  | none => rfl
  | some v =>
    exfalso
    have hm := lk_mem e
    rcases List.mem_append.1 hm with hm | hm
    · obtain ⟨x', hx', y', hy', _, he⟩ := mem_finsE.1 hm
      have := take_lt h1 hi hx hx'
      injection he with he _
      injection he with h3 h4
      omega
    · obtain ⟨y', hy', _, he⟩ := mem_finE.1 hm
      have := take_lt h2 hj hy hy'
      injection he with he _
      injection he with h3 h4
      omega
end Gm
namespace Gm
open Go Go.RowKit
set_option linter.unusedSimpArgs false
set_option linter.unusedVariables false
/-- The arcs that the steps of couple i make; l: the couples that are kept. -/
def cA (l : List Fnl) (i : Nat) (ss : List Arc) : List Arc := ss.flatMap fun s => if toC s ∈ l then [⟨(i : Int), (l.idxOf (toC s) : Int), s.i, s.o, s.w⟩] else []
def cAs (a b : Mach) (l : List Fnl) (k : Nat) : List Arc := (List.range k).flatMap fun i => cA l i (stepsOf a b (l.getD i dF))
def numV (v : Value) : Int := match v with | .int _ x => x | _ => 0
def cF1 (LF : List (Fnl × Value)) (i : Nat) (c : Fnl) : List Fnl := match lk LF c with | some v => [⟨(i : Int), numV v⟩] | none => []
def cFs (LF : List (Fnl × Value)) (l : List Fnl) (k : Nat) : List Fnl := (List.range k).flatMap fun i => cF1 LF i (l.getD i dF)
theorem getDA {l : List Arc} {k : Nat} {a : Arc} (hk : k < l.length) (ha : l.getD k dA = a) : l[k] = a := by rw [← ha]; simp [hk]
theorem cA_yes {l : List Fnl} {i : Nat} {ss : List Arc} {j : Nat} {s : Arc} (hj : j < ss.length) (hs : ss.getD j dA = s) (h : toC s ∈ l) : cA l i (ss.take (j + 1)) = cA l i (ss.take j) ++ [⟨(i : Int), (l.idxOf (toC s) : Int), s.i, s.o, s.w⟩] := by
  unfold cA
  rw [List.take_succ_eq_append_getElem hj, getDA hj hs, List.flatMap_append]
  simp [h]
theorem cA_no {l : List Fnl} {i : Nat} {ss : List Arc} {j : Nat} {s : Arc} (hj : j < ss.length) (hs : ss.getD j dA = s) (h : toC s ∉ l) : cA l i (ss.take (j + 1)) = cA l i (ss.take j) := by
  unfold cA
  rw [List.take_succ_eq_append_getElem hj, getDA hj hs, List.flatMap_append]
  simp [h]
theorem cA_len (l : List Fnl) (i : Nat) : ∀ ss : List Arc, (cA l i ss).length ≤ ss.length
  | [] => by simp [cA]
  | s :: ss => by
    have h := cA_len l i ss
    unfold cA at *
    rw [List.flatMap_cons, List.length_append, List.length_cons]
    by_cases e : toC s ∈ l
    · rw [if_pos e]; simp only [List.length_singleton]; omega
    · rw [if_neg e]; simp only [List.length_nil]; omega
theorem cAs_step (a b : Mach) (l : List Fnl) (k : Nat) : cAs a b l (k + 1) = cAs a b l k ++ cA l k (stepsOf a b (l.getD k dF)) := by
  unfold cAs
  rw [List.range_succ, List.flatMap_append]
  simp
theorem cFs_step (LF : List (Fnl × Value)) (l : List Fnl) (k : Nat) : cFs LF l (k + 1) = cFs LF l k ++ cF1 LF k (l.getD k dF) := by
  unfold cFs
  rw [List.range_succ, List.flatMap_append]
  simp
theorem cF1_len (LF : List (Fnl × Value)) (i : Nat) (c : Fnl) : (cF1 LF i c).length ≤ 1 := by
  unfold cF1; split <;> simp
theorem cFs_len (LF : List (Fnl × Value)) (l : List Fnl) : ∀ k, (cFs LF l k).length ≤ k
  | 0 => by simp [cFs]
  | k + 1 => by
    rw [cFs_step, List.length_append]
    have := cFs_len LF l k
    have := cF1_len LF k (l.getD k dF)
    omega
theorem cAs_tot (a b : Mach) (l : List Fnl) : ∀ k, k ≤ l.length → (cAs a b l k).length ≤ totL a b (l.take k)
  | 0, _ => by simp [cAs]
  | k + 1, h => by
    rw [cAs_step, List.length_append, List.take_succ_eq_append_getElem (by omega : k < l.length), totL_snoc]
    have := cAs_tot a b l k (by omega)
    have := cA_len l k (stepsOf a b (l.getD k dF))
    have e : l.getD k dF = l[k] := by simp [show k < l.length by omega]
    rw [e] at this ⊢
    omega
/-- How many arcs there may be. -/
theorem cAs_room {a b : Mach} {l : List Fnl} (hn : l.Nodup) (hs : ∀ c ∈ l, c ∈ reachL a b) {k : Nat} (hk : k < l.length) {c : Fnl} (hc : l.getD k dF = c) : (cAs a b l k).length + (stepsOf a b c).length ≤ total a b := by
  have h1 := cAs_tot a b l k (by omega)
  have e : l[k] = c := getDF hk hc
  have h2 : totL a b (l.take (k + 1)) ≤ total a b := sum_sub _ (hn.sublist (List.take_sublist _ _)) fun x hx => hs x ((List.take_sublist _ _).subset hx)
  rw [List.take_succ_eq_append_getElem hk, e, totL_snoc] at h2
  omega
theorem cAs_all {a b : Mach} {l : List Fnl} (hn : l.Nodup) (hs : ∀ c ∈ l, c ∈ reachL a b) : (cAs a b l l.length).length ≤ total a b := by
  have h1 := cAs_tot a b l l.length (Nat.le_refl _)
  rw [List.take_length] at h1
  exact Nat.le_trans h1 (sum_sub _ hn fun x hx => hs x hx)
/-- The map of numbers, when i couples have theirs. -/
def NumR (NL : List (Fnl × Value)) (l : List Fnl) (i : Nat) : Prop := ∀ c, lk NL c = if c ∈ l.take i then some (.int .i64 (l.idxOf c : Int)) else none
theorem idx_at {l : List Fnl} (hn : l.Nodup) {i : Nat} (hi : i < l.length) : l.idxOf l[i] = i := by
  have hm : l[i] ∈ l := List.getElem_mem hi
  have h1 : l.idxOf l[i] < l.length := List.idxOf_lt_length_of_mem hm
  have h2 : l[l.idxOf l[i]] = l[i] := List.getElem_idxOf h1
  exact (List.getElem_inj (h₀ := h1) (h₁ := hi) hn).1 h2
theorem NumR.step {NL : List (Fnl × Value)} {l : List Fnl} {i : Nat} (h : NumR NL l i) (hn : l.Nodup) (hi : i < l.length) {c : Fnl} (hc : l.getD i dF = c) : NumR (upL NL c (.int .i64 (i : Int))) l (i + 1) := fun d => by
  have e : l[i] = c := getDF hi hc
  rw [lk_up, List.take_succ_eq_append_getElem hi, e]
  by_cases hd : d = c
  · subst hd
    rw [if_pos rfl, if_pos (by simp), ← e, idx_at hn hi]
  · rw [if_neg hd, h d]
    by_cases hm : d ∈ l.take i
    · rw [if_pos hm, if_pos (by simp [hm])]
    · rw [if_neg hm, if_neg (by simp [hm, hd])]
/-- The entries of the final couples. -/
noncomputable def finL (a b : Mach) : List (Fnl × Value) := finsE (fun c => decide (c ∈ reachL a b)) a.fins b.fins
theorem finL_of {a b : Mach} {L : List (Fnl × Value)} (h : ∀ c, (lk L c).isSome = true ↔ c ∈ reachL a b) : finsE (fun c => (lk L c).isSome) a.fins b.fins = finL a b := by
  unfold finL
  have : (fun c => (lk L c).isSome) = fun c => decide (c ∈ reachL a b) := funext fun c => by
    rw [Bool.eq_iff_iff, h c, decide_eq_true_eq]
  rw [this]
/-- What Compose makes of two machines that are valid and have states. -/
noncomputable def cM (a b : Mach) : Mach := ⟨((keepL a b).length : Int), redA (cAs a b (keepL a b) (keepL a b).length), cFs (finL a b) (keepL a b) (keepL a b).length⟩
/-- The fault of its size, and then of its weights. -/
def szF (m : Mach) : Int × Int := if 400 < m.n ∨ 2000 < m.arcs.length then (17, -1) else if (∃ x ∈ m.arcs, 1000000 < x.w) ∨ ∃ x ∈ m.fins, 1000000 < x.w then (18, -1) else (0, 0)
def orE (f : Int × Int) (m : Mach) : Mach := if f = (0, 0) then m else ⟨0, [], []⟩
end Gm
namespace Gm
open Go Go.RowKit
set_option linter.unusedSimpArgs false
set_option linter.unusedVariables false
theorem filt_lt_succ (s : Nat) : ∀ E : List Nat, (E.filter fun x => decide (x < s + 1)).length = (E.filter fun x => decide (x < s)).length + (E.filter fun x => decide (x = s)).length
  | [] => rfl
  | x :: E => by
    have ih := filt_lt_succ s E
    rcases Nat.lt_trichotomy x s with h | h | h
    · rw [List.filter_cons_of_pos (by simp; omega), List.filter_cons_of_pos (by simp; omega), List.filter_cons_of_neg (by simp; omega)]
      simp only [List.length_cons]; omega
    · rw [List.filter_cons_of_pos (by simp; omega), List.filter_cons_of_neg (by simp; omega), List.filter_cons_of_pos (by simp; omega)]
      simp only [List.length_cons]; omega
    · rw [List.filter_cons_of_neg (by simp; omega), List.filter_cons_of_neg (by simp; omega), List.filter_cons_of_neg (by simp; omega)]
      exact ih
theorem filt_eq_one (s : Nat) : ∀ {E : List Nat}, E.Nodup → (E.filter fun x => decide (x = s)).length = if s ∈ E then 1 else 0
  | [], _ => rfl
  | x :: E, hn => by
    have h' := List.nodup_cons.1 hn
    have ih := filt_eq_one s h'.2
    by_cases h : x = s
    · subst h
      rw [List.filter_cons_of_pos (by simp), List.length_cons, ih, if_neg h'.1, if_pos (by simp)]
    · rw [List.filter_cons_of_neg (by simpa using h), ih]
      by_cases hs : s ∈ E
      · rw [if_pos hs, if_pos (by simp [hs])]
      · rw [if_neg hs, if_neg (by simp [hs]; exact fun e => h e.symm)]
theorem cnt_filt {K : Nat → Bool} {E : List Nat} {N : Nat} (hn : E.Nodup) (h : ∀ s, s ∈ E ↔ s < N ∧ K s = true) : ∀ s, s ≤ N → cntK K s = (E.filter fun x => decide (x < s)).length
  | 0, _ => by
    have : (E.filter fun x => decide (x < 0)) = [] := List.filter_eq_nil_iff.2 fun x _ => by simp
    rw [this]; rfl
  | s + 1, hs => by
    rw [cntK, cnt_filt hn h s (by omega), filt_lt_succ, filt_eq_one s hn]
    congr 1
    by_cases hk : K s = true
    · rw [if_pos hk, if_pos ((h s).2 ⟨by omega, hk⟩)]
    · rw [if_neg hk, if_neg (fun e => hk ((h s).1 e).2)]
theorem cnt_at {K : Nat → Bool} {E : List Nat} {N : Nat} (hs : E.Pairwise (· < ·)) (h : ∀ s, s ∈ E ↔ s < N ∧ K s = true) {i : Nat} (hi : i < E.length) : cntK K E[i] = i := by
  have hn : E.Nodup := hs.imp fun {a b} hab e => by omega
  have hm := (h E[i]).1 (List.getElem_mem hi)
  rw [cnt_filt hn h _ (by omega)]
  have h0 : (E.filter fun x => decide (x < E[i])) = ((E.take i).filter fun x => decide (x < E[i])) ++ ((E.drop i).filter fun x => decide (x < E[i])) := by rw [← List.filter_append, List.take_append_drop]
  rw [h0, List.length_append]
  have h1 : (E.take i).filter (fun x => decide (x < E[i])) = E.take i := List.filter_eq_self.2 fun x hx => by
    obtain ⟨j, hj, rfl⟩ := List.mem_iff_getElem.1 hx
    rw [List.length_take] at hj
    rw [List.getElem_take]
    exact decide_eq_true (List.pairwise_iff_getElem.1 hs j i (by omega) hi (by omega))
  have h2 : (E.drop i).filter (fun x => decide (x < E[i])) = [] := List.filter_eq_nil_iff.2 fun x hx => by
    obtain ⟨j, hj, rfl⟩ := List.mem_iff_getElem.1 hx
    rw [List.getElem_drop]
    simp only [decide_eq_true_eq]
    rcases Nat.eq_zero_or_pos j with e | e
    · subst e; simp
    · rw [List.length_drop] at hj
      have := List.pairwise_iff_getElem.1 hs i (i + j) hi (by omega) (by omega)
      omega
  rw [h1, h2, List.length_take]
  simp; omega
theorem cnt_len {K : Nat → Bool} {E : List Nat} {N : Nat} (hs : E.Pairwise (· < ·)) (h : ∀ s, s ∈ E ↔ s < N ∧ K s = true) : cntK K N = E.length := by
  have hn : E.Nodup := hs.imp fun {a b} hab e => by omega
  rw [cnt_filt hn h N (Nat.le_refl _)]
  congr 1
  exact List.filter_eq_self.2 fun x hx => decide_eq_true ((h x).1 hx).1
/-! arcs, by their first states -/
theorem flat_ins {α : Type} {z : α} {k : Nat} {g g' : Nat → List α} (h1 : g' k = z :: g k) (h2 : ∀ s, s ≠ k → g' s = g s) : ∀ {E : List Nat}, E.Nodup → k ∈ E → (E.flatMap g').Perm (z :: E.flatMap g)
  | [], _, hk => by cases hk
  | x :: E, hn, hk => by
    have h' := List.nodup_cons.1 hn
    rw [List.flatMap_cons, List.flatMap_cons]
    by_cases e : x = k
    · subst e
      have : E.flatMap g' = E.flatMap g := by
        rw [List.flatMap_def, List.flatMap_def]
        congr 1
        exact List.map_congr_left fun s hs => h2 s (fun e => h'.1 (e ▸ hs))
      rw [h1, this]
      exact List.Perm.refl _
    · rw [h2 x e]
      have hk' : k ∈ E := by rcases List.mem_cons.1 hk with g | g; exact absurd g.symm e; exact g
      exact ((List.perm_append_left_iff (g x)).2 (flat_ins h1 h2 h'.2 hk')).trans List.perm_middle
theorem group_perm {p : Arc → Bool} {E : List Nat} (hn : E.Nodup) : ∀ {A : List Arc}, (∀ z ∈ A, 0 ≤ z.f ∧ (p z = true → z.f.toNat ∈ E)) → (E.flatMap fun s => (outs A s).filter p).Perm (A.filter p)
  | [], _ => by
    have : (E.flatMap fun s => (outs [] s).filter p) = [] := by
      rw [List.flatMap_eq_nil_iff]
      intro s _; rfl
    rw [this]; exact List.Perm.refl _
  | z :: A, h => by
    have hz := h z (by simp)
    have ih := group_perm hn (A := A) (fun y hy => h y (by simp [hy]))
    by_cases hp : p z = true
    · rw [List.filter_cons_of_pos hp]
      refine List.Perm.trans (flat_ins (z := z) (k := z.f.toNat) (g := fun s => (outs A s).filter p) ?_ ?_ hn (hz.2 hp)) (List.Perm.cons z ih)
      · unfold outs
        rw [List.filter_cons_of_pos (by simp; omega), List.filter_cons_of_pos hp]
      · intro s hs
        unfold outs
        rw [List.filter_cons_of_neg (by simp; omega)]
    · rw [List.filter_cons_of_neg hp]
      have : (fun s => (outs (z :: A) s).filter p) = fun s => (outs A s).filter p := funext fun s => by
        unfold outs
        by_cases hs : z.f = (s : Int)
        · rw [List.filter_cons_of_pos (by simpa using hs), List.filter_cons_of_neg hp]
        · rw [List.filter_cons_of_neg (by simpa using hs)]
      rw [this]; exact ih
/-- Lists of final states in order, with the same members. -/
theorem fins_same : ∀ {l k : List Fnl}, l.Pairwise (fun a b => a.s < b.s) → k.Pairwise (fun a b => a.s < b.s) → (∀ x, x ∈ l ↔ x ∈ k) → l = k
  | [], [], _, _, _ => rfl
  | [], y :: k, _, _, h => by have := (h y).2 (by simp); cases this
  | x :: l, [], _, _, h => by have := (h x).1 (by simp); cases this
  | x :: l, y :: k, hl, hk, h => by
    have hl' := List.pairwise_cons.1 hl
    have hk' := List.pairwise_cons.1 hk
    have e : x = y := by
      rcases List.mem_cons.1 ((h x).1 (by simp)) with e | hm
      · exact e
      · rcases List.mem_cons.1 ((h y).2 (by simp)) with e | hm2
        · exact e.symm
        · have := hk'.1 x hm; have := hl'.1 y hm2; omega
    subst e
    congr 1
    refine fins_same hl'.2 hk'.2 fun z => ?_
    constructor
    · intro hz
      rcases List.mem_cons.1 ((h z).1 (by simp [hz])) with e | hm
      · subst e; have := hl'.1 z hz; omega
      · exact hm
    · intro hz
      rcases List.mem_cons.1 ((h z).2 (by simp [hz])) with e | hm
      · subst e; have := hk'.1 z hz; omega
      · exact hm
theorem kept_iff {a b : Mach} (ha : Rng a) (hb : Rng b) (ha0 : 0 < a.n) (hb0 : 0 < b.n) {c : Fnl} (hc : inC a b c) : keepK (prodM a b) (encC b c).toNat = true ↔ c ∈ keepL a b := by
  have he := encC_rng hc
  have hcast : (((encC b c).toNat : Nat) : Int) = encC b c := by omega
  rw [keepK_iff, hcast, mem_keepL]
  unfold KeepC
  rw [mem_reachL]
  exact ⟨fun ⟨h1, h2⟩ => ⟨⟨hc, h1⟩, h2⟩, fun ⟨⟨_, h1⟩, h2⟩ => ⟨h1, h2⟩⟩
theorem enc_mono {a b : Mach} (ha : Rng a) (hb : Rng b) (ha0 : 0 < a.n) (hb0 : 0 < b.n) {c d : Fnl} (hc : inC a b c) (hd : inC a b d) (h : cLt c d) : (encC b c).toNat < (encC b d).toNat := by
  have h1 := encC_rng hc
  have h2 : encC b c < encC b d := (enc_lt hc.2.2.1 hc.2.2.2 hd.2.2.1 hd.2.2.2).2 h
  omega
section
variable {a b : Mach} (ha : Rng a) (hb : Rng b) (ha0 : 0 < a.n) (hb0 : 0 < b.n)
include ha hb ha0 hb0
theorem enc_sorted : ((keepL a b).map fun c => (encC b c).toNat).Pairwise (· < ·) := by
  refine List.pairwise_map.2 (List.Pairwise.imp_of_mem (fun {c d} hc hd h => ?_) (keepL_sorted a b))
  exact enc_mono ha hb ha0 hb0 (mem_reachL.1 (mem_keepL.1 hc).1).1 (mem_reachL.1 (mem_keepL.1 hd).1).1 h
theorem enc_mem (s : Nat) : s ∈ ((keepL a b).map fun c => (encC b c).toNat) ↔ s < (a.n * b.n).toNat ∧ keepK (prodM a b) s = true := by
  rw [List.mem_map]
  constructor
  · rintro ⟨c, hc, rfl⟩
    have hin := (mem_reachL.1 (mem_keepL.1 hc).1).1
    have he := encC_rng hin
    exact ⟨by omega, (kept_iff ha hb ha0 hb0 hin).2 hc⟩
  · rintro ⟨h1, h2⟩
    have hN : 0 < a.n * b.n := Int.mul_pos ha0 hb0
    have hs : (s : Int) < a.n * b.n := by omega
    have hin : inC a b ⟨(s : Int) / b.n, (s : Int) % b.n⟩ :=
      ⟨Int.ediv_nonneg (by omega) (by omega), Int.ediv_lt_of_lt_mul hb0 hs, Int.emod_nonneg _ (by omega), Int.emod_lt_of_pos _ hb0⟩
    have he : encC b ⟨(s : Int) / b.n, (s : Int) % b.n⟩ = (s : Int) := enc_dec hb0
    refine ⟨_, (kept_iff ha hb ha0 hb0 hin).1 ?_, ?_⟩
    · rw [he]; simpa using h2
    · rw [he]; simp
theorem num_idx {c : Fnl} (hc : c ∈ keepL a b) : cntK (keepK (prodM a b)) (encC b c).toNat = (keepL a b).idxOf c := by
  have h1 : (keepL a b).idxOf c < (keepL a b).length := List.idxOf_lt_length_of_mem hc
  have h2 : (keepL a b)[(keepL a b).idxOf c] = c := List.getElem_idxOf h1
  have h3 := cnt_at (enc_sorted ha hb ha0 hb0) (enc_mem ha hb ha0 hb0) (i := (keepL a b).idxOf c) (by rw [List.length_map]; exact h1)
  rw [List.getElem_map, h2] at h3
  exact h3
theorem cA_part {i : Nat} (hi : i < (keepL a b).length) : cA (keepL a b) i (stepsOf a b (keepL a b)[i]) = partArcs (keepK (prodM a b)) (outs (prodArcs a b) (encC b (keepL a b)[i]).toNat) := by
  have hc : (keepL a b)[i] ∈ keepL a b := List.getElem_mem hi
  have hin := (mem_reachL.1 (mem_keepL.1 hc).1).1
  have hn := cLt_nodup (keepL_sorted a b)
  rw [outs_prod ha hb hin]
  unfold partArcs cA
  have key : ∀ ss : List Arc, (∀ s ∈ ss, s ∈ stepsOf a b (keepL a b)[i]) → (ss.flatMap fun s => if toC s ∈ keepL a b then [(⟨(i : Int), ((keepL a b).idxOf (toC s) : Int), s.i, s.o, s.w⟩ : Arc)] else []) =
      ((ss.map fun st => (⟨encC b (keepL a b)[i], encC b (toC st), st.i, st.o, st.w⟩ : Arc)).filter fun z => keepK (prodM a b) z.f.toNat && keepK (prodM a b) z.t.toNat).map (partArc (keepK (prodM a b))) := by
    intro ss
    induction ss with
    | nil => intro _; rfl
    | cons s ss ih =>
      intro hs
      have ih' := ih (fun x hx => hs x (by simp [hx]))
      have hst := step_in ha hb hin (hs s (by simp))
      have k1 : keepK (prodM a b) (encC b (keepL a b)[i]).toNat = true := (kept_iff ha hb ha0 hb0 hin).2 hc
      rw [List.flatMap_cons, List.map_cons]
      by_cases hk : toC s ∈ keepL a b
      · have k2 : keepK (prodM a b) (encC b (toC s)).toNat = true := (kept_iff ha hb ha0 hb0 hst).2 hk
        rw [if_pos hk, List.filter_cons_of_pos (by simp [k1, k2]), List.map_cons, ← ih']
        have e1 := num_idx ha hb ha0 hb0 hc
        have e2 := num_idx ha hb ha0 hb0 hk
        rw [idx_at hn hi] at e1
        simp only [partArc, e1, e2]
        rfl
      · have k2 : ¬ keepK (prodM a b) (encC b (toC s)).toNat = true := fun e => hk ((kept_iff ha hb ha0 hb0 hst).1 e)
        rw [if_neg hk, List.filter_cons_of_neg (by simp [k1]; simpa using k2), ← ih']
        rfl
  exact key _ (fun s hs => hs)
theorem cAs_perm : (cAs a b (keepL a b) (keepL a b).length).Perm (partArcs (keepK (prodM a b)) (prodArcs a b)) := by
  have e1 : cAs a b (keepL a b) (keepL a b).length = ((keepL a b).map fun c => (encC b c).toNat).flatMap fun s => partArcs (keepK (prodM a b)) (outs (prodArcs a b) s) := by
    unfold cAs
    rw [List.flatMap_def, List.flatMap_def]
    congr 1
    apply List.ext_getElem
    · simp
    · intro i h1 h2
      have hi : i < (keepL a b).length := by simpa using h1
      simp only [List.getElem_map, List.getElem_range]
      have e : (keepL a b).getD i dF = (keepL a b)[i] := by simp [hi]
      rw [e]
      exact cA_part ha hb ha0 hb0 hi
  rw [e1]
  have hn : ((keepL a b).map fun c => (encC b c).toNat).Nodup := (enc_sorted ha hb ha0 hb0).imp fun {x y} h e => by omega
  have h2 := group_perm (p := fun z => keepK (prodM a b) z.f.toNat && keepK (prodM a b) z.t.toNat) hn (A := prodArcs a b) (fun z hz => by
    have hr := (rng_prod ha hb).arc z hz
    refine ⟨hr.1, fun hp => (enc_mem ha hb ha0 hb0 _).2 ⟨?_, ?_⟩⟩
    · have : (prodM a b).n = a.n * b.n := rfl
      omega
    · simp only [Bool.and_eq_true] at hp; exact hp.1)
  have h3 := h2.map (partArc (keepK (prodM a b)))
  rw [List.map_flatMap] at h3
  exact h3
end
theorem prodFins_sorted {a b : Mach} (hVa : Valid a) (hVb : Valid b) : (prodFins a b).Pairwise fun x y => x.s < y.s := by
  have ha := rng_valid hVa
  have hb := rng_valid hVb
  unfold prodFins
  refine List.pairwise_flatMap.2 ⟨fun x hx => ?_, ?_⟩
  · refine List.pairwise_map.2 (List.Pairwise.imp_of_mem (fun {y z} hy hz h => ?_) (fins_sorted hVb))
    have h1 := hb.fin y hy
    have h2 := hb.fin z hz
    exact (enc_lt h1.1 h1.2 h2.1 h2.2).2 (.inr ⟨rfl, h⟩)
  · refine List.Pairwise.imp_of_mem (fun {x x'} hx hx' h => ?_) (fins_sorted hVa)
    intro y hy z hz
    obtain ⟨y', hy', rfl⟩ := List.mem_map.1 hy
    obtain ⟨z', hz', rfl⟩ := List.mem_map.1 hz
    have h1 := hb.fin y' hy'
    have h2 := hb.fin z' hz'
    exact (enc_lt h1.1 h1.2 h2.1 h2.2).2 (.inl h)
theorem fins_inj {m : Mach} (h : Valid m) {x y : Fnl} (hx : x ∈ m.fins) (hy : y ∈ m.fins) (e : x.s = y.s) : x = y := by
  obtain ⟨i, hi, rfl⟩ := List.mem_iff_getElem.1 hx
  obtain ⟨j, hj, rfl⟩ := List.mem_iff_getElem.1 hy
  have hs := List.pairwise_iff_getElem.1 (fins_sorted h)
  rcases Nat.lt_trichotomy i j with g | g | g
  · have := hs i j hi hj g; omega
  · subst g; rfl
  · have := hs j i hj hi g; omega
theorem cFs_mem (LF : List (Fnl × Value)) (l : List Fnl) {x : Fnl} : ∀ k, x ∈ cFs LF l k ↔ ∃ i, i < k ∧ ∃ v, lk LF (l.getD i dF) = some v ∧ x = ⟨(i : Int), numV v⟩ := by
  intro k
  unfold cFs
  rw [List.mem_flatMap]
  constructor
  · rintro ⟨i, hi, hx⟩
    refine ⟨i, List.mem_range.1 hi, ?_⟩
    unfold cF1 at hx
    cases e : lk LF (l.getD i dF) with
    | none => rw [e] at hx; cases hx
    | some v => rw [e] at hx; exact ⟨v, rfl, List.mem_singleton.1 hx⟩
  · rintro ⟨i, hi, v, e, rfl⟩
    refine ⟨i, List.mem_range.2 hi, ?_⟩
    unfold cF1
    rw [e]; simp
theorem cFs_sorted (LF : List (Fnl × Value)) (l : List Fnl) (k : Nat) : (cFs LF l k).Pairwise fun x y => x.s < y.s := by
  unfold cFs
  refine List.pairwise_flatMap.2 ⟨fun i _ => ?_, ?_⟩
  · unfold cF1; split <;> simp
  · refine List.pairwise_lt_range.imp ?_
    intro i j h x hx y hy
    have f : ∀ {i : Nat} {x : Fnl}, x ∈ cF1 LF i (l.getD i dF) → x.s = (i : Int) := by
      intro i x hx
      unfold cF1 at hx
      split at hx
      · rw [List.mem_singleton.1 hx]
      · cases hx
    rw [f hx, f hy]; omega
theorem cFs_part {a b : Mach} (hVa : Valid a) (hVb : Valid b) (ha0 : 0 < a.n) (hb0 : 0 < b.n) : cFs (finL a b) (keepL a b) (keepL a b).length = partFins (keepK (prodM a b)) (prodFins a b) := by
  have ha := rng_valid hVa
  have hb := rng_valid hVb
  have hn := cLt_nodup (keepL_sorted a b)
  refine fins_same (cFs_sorted _ _ _) ?_ fun x => ?_
  · unfold partFins
    refine List.pairwise_map.2 (List.Pairwise.imp_of_mem (fun {x y} hx hy h => ?_) ((prodFins_sorted hVa hVb).filter _))
    obtain ⟨hx1, hx2⟩ := List.mem_filter.1 hx
    have hr := (rng_prod ha hb).fin x hx1
    exact num_mono (K := keepK (prodM a b)) hr.1 hx2 h
  · rw [cFs_mem]
    unfold partFins
    rw [List.mem_map]
    constructor
    · rintro ⟨i, hi, v, hv, rfl⟩
      have e : (keepL a b).getD i dF = (keepL a b)[i] := by simp [hi]
      rw [e] at hv
      have hc : (keepL a b)[i] ∈ keepL a b := List.getElem_mem hi
      obtain ⟨x, hx, y, hy, hr, he⟩ := mem_finsE.1 (lk_mem hv)
      have h1 := Prod.mk.inj he
      have hin := (mem_reachL.1 (mem_keepL.1 hc).1).1
      have hk := (kept_iff ha hb ha0 hb0 hin).2 hc
      have hnum := num_idx ha hb ha0 hb0 hc
      rw [idx_at hn hi] at hnum
      refine ⟨⟨enc b.n x.s y.s, x.w + y.w⟩, List.mem_filter.2 ⟨mem_prodF.2 ⟨x, hx, y, hy, rfl⟩, ?_⟩, ?_⟩
      · rw [h1.1] at hk; exact hk
      · rw [h1.1] at hnum
        unfold partFin
        rw [h1.2]
        have e2 : cntK (keepK (prodM a b)) (enc b.n x.s y.s).toNat = i := hnum
        dsimp only
        rw [e2]; rfl
    · rintro ⟨z, hz, rfl⟩
      obtain ⟨hz1, hz2⟩ := List.mem_filter.1 hz
      obtain ⟨x, hx, y, hy, rfl⟩ := mem_prodF.1 hz1
      have hxr := ha.fin x hx
      have hyr := hb.fin y hy
      have hin : inC a b ⟨x.s, y.s⟩ := ⟨hxr.1, hxr.2, hyr.1, hyr.2⟩
      have hc : (⟨x.s, y.s⟩ : Fnl) ∈ keepL a b := (kept_iff ha hb ha0 hb0 hin).1 hz2
      have hi : (keepL a b).idxOf (⟨x.s, y.s⟩ : Fnl) < (keepL a b).length := List.idxOf_lt_length_of_mem hc
      have hg : (keepL a b)[(keepL a b).idxOf (⟨x.s, y.s⟩ : Fnl)] = ⟨x.s, y.s⟩ := List.getElem_idxOf hi
      have hr : (⟨x.s, y.s⟩ : Fnl) ∈ reachL a b := (mem_keepL.1 hc).1
      have hm : ((⟨x.s, y.s⟩ : Fnl), Value.int .i64 (x.w + y.w)) ∈ finL a b := mem_finsE.2 ⟨x, hx, y, hy, decide_eq_true hr, rfl⟩
      have hsome : (lk (finL a b) ⟨x.s, y.s⟩).isSome = true := (lk_isSome _ _).2 (List.mem_map.2 ⟨_, hm, rfl⟩)
      obtain ⟨v, hv⟩ := Option.isSome_iff_exists.1 hsome
      obtain ⟨x', hx', y', hy', _, he⟩ := mem_finsE.1 (lk_mem hv)
      have h1 := Prod.mk.inj he
      have h2 : x.s = x'.s ∧ y.s = y'.s := by have := h1.1; injection this with e1 e2; exact ⟨e1, e2⟩
      have ex := fins_inj hVa hx hx' h2.1
      have ey := fins_inj hVb hy hy' h2.2
      have hnum := num_idx ha hb ha0 hb0 hc
      refine ⟨_, hi, v, by rw [show (keepL a b).getD ((keepL a b).idxOf (⟨x.s, y.s⟩ : Fnl)) dF = ⟨x.s, y.s⟩ by simp only [List.getD_eq_getElem?_getD, List.getElem?_eq_getElem hi, Option.getD_some]; exact hg]; exact hv, ?_⟩
      unfold partFin
      have e2 : cntK (keepK (prodM a b)) (enc b.n x.s y.s).toNat = (keepL a b).idxOf (⟨x.s, y.s⟩ : Fnl) := hnum
      dsimp only
      rw [e2, h1.2, ex, ey]; rfl
/-- What Compose builds. -/
theorem cM_yes {a b : Mach} (hVa : Valid a) (hVb : Valid b) (ha0 : 0 < a.n) (hb0 : 0 < b.n) (h : (⟨0, 0⟩ : Fnl) ∈ keepL a b) : cM a b = compM a b := by
  have ha := rng_valid hVa
  have hb := rng_valid hVb
  have hin := (mem_reachL.1 (mem_keepL.1 h).1).1
  have hk := (kept_iff ha hb ha0 hb0 hin).2 h
  have e0 : encC b ⟨0, 0⟩ = 0 := by simp [encC, enc]
  rw [e0] at hk
  have hN : (prodM a b).n ≠ 0 := by
    have : 0 < a.n * b.n := Int.mul_pos ha0 hb0
    show a.n * b.n ≠ 0
    omega
  have ht : trimOf (prodM a b) = partM (prodM a b) (keepK (prodM a b)) := by
    unfold trimOf
    rw [if_neg]
    rintro (g | g)
    · exact hN g
    · have : keepK (prodM a b) 0 = true := hk
      rw [this] at g; cases g
  unfold compM redM
  rw [ht]
  unfold cM partM
  have e1 := cnt_len (enc_sorted ha hb ha0 hb0) (enc_mem ha hb ha0 hb0)
  rw [List.length_map] at e1
  dsimp only
  rw [show (prodM a b).n = a.n * b.n from rfl, e1, redA_congr (cAs_perm ha hb ha0 hb0), cFs_part hVa hVb ha0 hb0]
  rfl
theorem cM_no {a b : Mach} (hVa : Valid a) (hVb : Valid b) (ha0 : 0 < a.n) (hb0 : 0 < b.n) (h : (⟨0, 0⟩ : Fnl) ∉ keepL a b) : compM a b = ⟨0, [], []⟩ := by
  have ha := rng_valid hVa
  have hb := rng_valid hVb
  have hin : inC a b ⟨0, 0⟩ := ⟨Int.le_refl _, ha0, Int.le_refl _, hb0⟩
  have hk : ¬ keepK (prodM a b) 0 = true := fun g => h ((kept_iff ha hb ha0 hb0 hin).1 (by rw [show encC b ⟨0, 0⟩ = 0 by simp [encC, enc]]; exact g))
  have ht : trimOf (prodM a b) = emptyM := by
    unfold trimOf
    rw [if_pos (.inr (by simpa using hk))]
  unfold compM redM
  rw [ht]
  rfl
end Gm
