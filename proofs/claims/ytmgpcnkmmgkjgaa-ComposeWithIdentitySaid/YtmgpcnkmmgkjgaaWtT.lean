/- A machine without the states that are on no path accepts as before: plain law. No program in sight. -/
import Derived.Test.YtmgpcnkmmgkjgaaRaP
import Derived.Test.YtmgpcnkmmgkjgaaPlD
namespace Gm
set_option linter.unusedSimpArgs false
set_option linter.unusedVariables false
theorem rng_valid {m : Mach} (h : Valid m) : Rng m where
  arc := fun a ha => by have := okArc_iff (h.okA ha); omega
  fin := fun x hx => by have := okFin_iff (h.okF hx); omega
  wt := ⟨fun a ha => by have := okArc_iff (h.okA ha); omega, fun x hx => by have := okFin_iff (h.okF hx); omega⟩
  n0 := h.n0
theorem pw_RSf {A : List Arc} {s t : Int} {u v : List Int} {d : Nat} {I : List Int} (h : Pw A s t u v d) (hs : RS false A I s) : RS false A I t := by
  induction h with
  | nil => exact hs
  | @snoc t u v d a _ ha hf ih => exact .step (a := a) ih ha hf rfl
theorem pw_RSb {A : List Arc} {s t : Int} {u v : List Int} {d : Nat} {I : List Int} (h : Pw A s t u v d) : RS true A I t → RS true A I s := by
  induction h with
  | nil => exact id
  | @snoc t u v d a _ ha hf ih => exact fun hs => ih (.step (a := a) hs ha rfl hf)
theorem num_inj {m : Mach} {x y : Int} (hx : 0 ≤ x) (hy : 0 ≤ y) (kx : keepK m x.toNat = true) (ky : keepK m y.toNat = true) (e : (cntK (keepK m) x.toNat : Int) = (cntK (keepK m) y.toNat : Int)) : x = y := by
  rcases Int.lt_trichotomy x y with hlt | heq | hlt
  · have := num_mono hx kx hlt; omega
  · exact heq
  · have := num_mono hy ky hlt; omega
section
variable {m : Mach} (h : Valid m)
include h
theorem pw_part {t : Int} {u v : List Int} {d : Nat} (hp : Pw m.arcs 0 t u v d) : RS true m.arcs (finStates m.fins) t → Pw (partM m (keepK m)).arcs 0 (cntK (keepK m) t.toNat : Int) u v d := by
  induction hp with
  | nil => intro _; exact Pw.nil.cast (by simp [cntK]) rfl rfl rfl
  | @snoc t u v d a hp ha hf ih =>
    intro ht
    have hb : RS true m.arcs (finStates m.fins) t := .step (a := a) ht ha rfl hf
    have hft : RS false m.arcs [0] t := pw_RSf hp (.base (by simp))
    have hsr := RS_rngB h hb
    have htr := RS_rngB h ht
    have k1 := keep_of hsr.1 hft hb
    have k2 := keep_of htr.1 (.step (a := a) hft ha hf rfl) ht
    have g := Pw.snoc (ih hb) (mem_part ha (by rw [hf]; exact k1) k2) (by show ((cntK (keepK m) a.f.toNat : Nat) : Int) = _; rw [hf])
    exact g
theorem part_pw (hk : keepK m 0 = true) {t : Int} {u v : List Int} {d : Nat} (hp : Pw (partM m (keepK m)).arcs 0 t u v d) : ∃ s, 0 ≤ s ∧ keepK m s.toNat = true ∧ t = (cntK (keepK m) s.toNat : Int) ∧ Pw m.arcs 0 s u v d := by
  induction hp with
  | nil => exact ⟨0, Int.le_refl _, hk, by simp [cntK], .nil⟩
  | @snoc t u v d a hp ha hf ih =>
    obtain ⟨s, hs, ks, rfl, hq⟩ := ih
    obtain ⟨b, hb, rfl⟩ := List.mem_map.1 ha
    obtain ⟨hb1, hb2⟩ := List.mem_filter.1 hb
    simp only [Bool.and_eq_true] at hb2
    have hr := (rng_valid h).arc b hb1
    have e : b.f = s := num_inj hr.1 hs hb2.1 ks hf
    exact ⟨b.t, hr.2.2.1, hb2.2, rfl, .snoc hq hb1 e⟩
theorem acc_trim {u v : List Int} {d : Nat} : Acc (trimOf m) u v d ↔ Acc m u v d := by
  have ht := rng_valid (trim_valid h)
  rw [ht.acc, (rng_valid h).acc]
  unfold trimOf
  by_cases hn : m.n = 0
  · rw [if_pos (.inl hn)]
    simp [emptyM, hn]
  · have h0 : 0 < m.n.toNat := by have := h.n0; omega
    have h0' : 0 < m.n := by omega
    cases hk : keepK m 0
    · rw [if_pos (.inr rfl)]
      constructor
      · rintro ⟨hh, _⟩; simp [emptyM] at hh
      · rintro ⟨_, x, hx, e, hp, rfl⟩
        exfalso
        have hb := pw_RSb hp (.base (I := finStates m.fins) (List.mem_map.2 ⟨x, hx, rfl⟩))
        have := (keepK_iff (m := m) (s := 0)).2 ⟨.base (by simp), hb⟩
        rw [hk] at this; cases this
    · rw [if_neg (by simp [hn])]
      have hpn : 0 < (partM m (keepK m)).n := by
        have h1 := cntK_strict (K := keepK m) (s := 0) (t := m.n.toNat) h0 hk
        show (0 : Int) < ((cntK (keepK m) m.n.toNat : Nat) : Int)
        omega
      constructor
      · rintro ⟨_, x, hx, e, hp, rfl⟩
        obtain ⟨y, hy, rfl⟩ := List.mem_map.1 hx
        obtain ⟨hy1, hy2⟩ := List.mem_filter.1 hy
        obtain ⟨s, hs, ks, he, hq⟩ := part_pw h hk hp
        have hr := (rng_valid h).fin y hy1
        have e1 : y.s = s := num_inj hr.1 hs hy2 ks he
        exact ⟨h0', y, hy1, e, hq.cast e1.symm rfl rfl rfl, rfl⟩
      · rintro ⟨_, x, hx, e, hp, rfl⟩
        have hb : RS true m.arcs (finStates m.fins) x.s := .base (List.mem_map.2 ⟨x, hx, rfl⟩)
        have hf := pw_RSf hp (.base (I := [0]) (by simp))
        have hr := (rng_valid h).fin x hx
        have k1 := keep_of hr.1 hf hb
        exact ⟨hpn, partFin (keepK m) x, List.mem_map.2 ⟨x, List.mem_filter.2 ⟨hx, k1⟩, rfl⟩, e, pw_part h hp hb, rfl⟩
theorem wgt_trim (u v : List Int) : wgt (trimOf m) u v = wgt m u v := wgt_congr fun _ => acc_trim h
end
end Gm
