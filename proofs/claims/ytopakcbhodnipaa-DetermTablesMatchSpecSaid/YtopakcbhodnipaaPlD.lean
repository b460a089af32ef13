/- A trimmed machine is valid, and trimmed again it stays as it is. No program in sight. -/
import Derived.Test.YtopakcbhodnipaaPlT
namespace Gm
theorem cntK_mono' {K : Nat → Bool} {s t : Nat} (h : s ≤ t) : cntK K s ≤ cntK K t := by
  induction t with
  | zero => obtain rfl : s = 0 := by omega
            exact Nat.le_refl _
  | succ t ih =>
    rcases Nat.eq_or_lt_of_le h with e | e
    · subst e; exact Nat.le_refl _
    · have := ih (by omega)
      simp only [cntK]; omega
theorem cntK_strict {K : Nat → Bool} {s t : Nat} (h : s < t) (hs : K s = true) : cntK K s < cntK K t := by
  have h1 : cntK K (s + 1) ≤ cntK K t := cntK_mono' h
  simp only [cntK, hs, if_true] at h1
  omega
theorem cntK_all {K : Nat → Bool} : ∀ N, (∀ s, s < N → K s = true) → cntK K N = N
  | 0, _ => rfl
  | N + 1, h => by simp only [cntK]; rw [cntK_all N (fun s hs => h s (by omega)), h N (by omega)]; rfl
theorem cntK_onto {K : Nat → Bool} : ∀ (S i : Nat), i < cntK K S → ∃ s, s < S ∧ K s = true ∧ cntK K s = i
  | 0, i, h => by simp [cntK] at h
  | S + 1, i, h => by
    rcases Nat.lt_or_ge i (cntK K S) with h1 | h1
    · obtain ⟨s, hs, h2, h3⟩ := cntK_onto S i h1
      exact ⟨s, by omega, h2, h3⟩
    · simp only [cntK] at h
      cases hk : K S
      · rw [hk] at h; simp at h; omega
      · rw [hk] at h; simp at h; exact ⟨S, by omega, hk, by omega⟩
/-! the order of arcs -/
theorem lessL_trans : ∀ (a b c : List Int), lessL a b = true → lessL b c = true → lessL a c = true
  | [], _, _, h, _ => by simp [lessL] at h
  | _ :: _, [], _, h, _ => by simp [lessL] at h
  | _ :: _, _ :: _, [], _, h => by simp [lessL] at h
  | x :: a, y :: b, z :: c, h1, h2 => by
    have ih := lessL_trans a b c
    simp only [lessL] at h1 h2 ⊢
    by_cases e1 : x = y
    · subst e1
      rw [if_pos rfl] at h1
      by_cases e2 : x = z
      · subst e2; rw [if_pos rfl] at h2 ⊢; exact ih h1 h2
      · rw [if_neg e2] at h2 ⊢; exact h2
    · rw [if_neg e1] at h1
      have h1 := of_decide_eq_true h1
      by_cases e2 : y = z
      · subst e2; rw [if_neg e1]; exact decide_eq_true h1
      · rw [if_neg e2] at h2
        have h2 := of_decide_eq_true h2
        rw [if_neg (by omega)]; exact decide_eq_true (by omega)
theorem pairwise_of_step {α : Type} {R : α → α → Prop} (tr : ∀ a b c, R a b → R b c → R a c) (d : α) : ∀ (l : List α), (∀ k, k + 1 < l.length → R (l.getD k d) (l.getD (k + 1) d)) → l.Pairwise R
  | [], _ => .nil
  | [_], _ => by simp
  | a :: b :: l, h => by
    have ih := pairwise_of_step tr d (b :: l) (fun k hk => by have := h (k + 1) (by simpa using hk); simpa using this)
    refine List.Pairwise.cons (fun c hc => ?_) ih
    have hab : R a b := by have := h 0 (by simp); simpa using this
    rcases List.mem_cons.1 hc with rfl | hc
    · exact hab
    · exact tr _ _ _ hab ((List.pairwise_cons.1 ih).1 c hc)
theorem step_of_pairwise {α : Type} {R : α → α → Prop} (d : α) {l : List α} (h : l.Pairwise R) {k : Nat} (hk : k + 1 < l.length) : R (l.getD k d) (l.getD (k + 1) d) := by
  have := List.pairwise_iff_getElem.1 h k (k + 1) (by omega) hk (by omega)
  simpa [List.getD_eq_getElem?_getD, List.getElem?_eq_getElem hk, List.getElem?_eq_getElem (show k < l.length by omega)] using this
theorem mem_part {m : Mach} {a : Arc} (ha : a ∈ m.arcs) (h1 : keepK m a.f.toNat = true) (h2 : keepK m a.t.toNat = true) : partArc (keepK m) a ∈ (partM m (keepK m)).arcs :=
  List.mem_map.2 ⟨a, List.mem_filter.2 ⟨ha, by rw [h1, h2]; rfl⟩, rfl⟩
theorem keep_of {m : Mach} {x : Int} (h0 : 0 ≤ x) (h1 : RS false m.arcs [0] x) (h2 : RS true m.arcs (finStates m.fins) x) : keepK m x.toNat = true := by
  have e : ((x.toNat : Nat) : Int) = x := by omega
  exact keepK_iff.2 ⟨by rw [e]; exact h1, by rw [e]; exact h2⟩
theorem lessL_img {a1 a2 a3 a4 a5 b1 b2 b3 b4 b5 c1 c4 d1 d4 : Int} (h1 : a1 < b1 → c1 < d1) (h1' : a1 = b1 → c1 = d1) (h4 : a4 < b4 → c4 < d4) (h4' : a4 = b4 → c4 = d4) (h : lessL [a1, a2, a3, a4, a5] [b1, b2, b3, b4, b5] = true) : lessL [c1, a2, a3, c4, a5] [d1, b2, b3, d4, b5] = true := by
  simp only [lessL] at h ⊢
  by_cases e1 : a1 = b1
  · rw [if_pos e1] at h
    rw [if_pos (h1' e1)]
    by_cases e2 : a2 = b2
    · rw [if_pos e2] at h ⊢
      by_cases e3 : a3 = b3
      · rw [if_pos e3] at h ⊢
        by_cases e4 : a4 = b4
        · rw [if_pos e4] at h
          rw [if_pos (h4' e4)]
          exact h
        · rw [if_neg e4] at h
          have := h4 (of_decide_eq_true h)
          rw [if_neg (by omega)]
          exact decide_eq_true this
      · rw [if_neg e3] at h ⊢; exact h
    · rw [if_neg e2] at h ⊢; exact h
  · rw [if_neg e1] at h
    have := h1 (of_decide_eq_true h)
    rw [if_neg (by omega)]
    exact decide_eq_true this
theorem num_mono {K : Nat → Bool} {x y : Int} (hx : 0 ≤ x) (hk : K x.toNat = true) (h : x < y) : ((cntK K x.toNat : Nat) : Int) < ((cntK K y.toNat : Nat) : Int) := by
  have := cntK_strict (K := K) (show x.toNat < y.toNat by omega) hk
  omega
section
variable {m : Mach} (h : Valid m)
include h
theorem RS_rngF {x : Int} (h0 : 0 < m.n.toNat) (hr : RS false m.arcs [0] x) : 0 ≤ x ∧ x < (m.n.toNat : Int) := by
  induction hr with
  | base hs => simp at hs; omega
  | @step s t a _ ha hk hv _ => have := aval_rng (back := false) h.inRange ha; omega
theorem RS_rngB {x : Int} (hr : RS true m.arcs (finStates m.fins) x) : 0 ≤ x ∧ x < (m.n.toNat : Int) := by
  induction hr with
  | base hs =>
    obtain ⟨y, hy, rfl⟩ := List.mem_map.1 hs
    exact h.finRange y hy
  | @step s t a _ ha hk hv _ => have := aval_rng (back := true) h.inRange ha; omega
theorem part_fwd (h0 : 0 < m.n.toNat) {x : Int} (hr : RS false m.arcs [0] x) : RS true m.arcs (finStates m.fins) x → RS false (partM m (keepK m)).arcs [0] (cntK (keepK m) x.toNat : Int) := by
  induction hr with
  | base hs => intro _; simp at hs; subst hs; exact .base (by simp [cntK])
  | @step s t a hs ha hk hv ih =>
    intro ht
    have hks : a.f = s := hk
    have hvt : a.t = t := hv
    have hb : RS true m.arcs (finStates m.fins) s := .step (a := a) ht ha hvt hks
    have hsr := RS_rngF h h0 hs
    have htr := RS_rngB h ht
    have k1 := keep_of hsr.1 hs hb
    have k2 := keep_of htr.1 (.step hs ha hk hv) ht
    exact .step (ih hb) (mem_part ha (by rw [hks]; exact k1) (by rw [hvt]; exact k2)) (by show ((cntK (keepK m) a.f.toNat : Nat) : Int) = _; rw [hks]) (by show ((cntK (keepK m) a.t.toNat : Nat) : Int) = _; rw [hvt])
theorem part_bwd (h0 : 0 < m.n.toNat) {x : Int} (hr : RS true m.arcs (finStates m.fins) x) : RS false m.arcs [0] x → RS true (partM m (keepK m)).arcs (finStates (partM m (keepK m)).fins) (cntK (keepK m) x.toNat : Int) := by
  induction hr with
  | @base s hs =>
    intro hf
    have hsr := RS_rngF h h0 hf
    have k1 := keep_of hsr.1 hf (.base hs)
    obtain ⟨y, hy, rfl⟩ := List.mem_map.1 hs
    exact .base (List.mem_map.2 ⟨partFin (keepK m) y, List.mem_map.2 ⟨y, List.mem_filter.2 ⟨hy, k1⟩, rfl⟩, rfl⟩)
  | @step s t a hs ha hk hv ih =>
    intro ht
    have hks : a.t = s := hk
    have hvt : a.f = t := hv
    have hb : RS false m.arcs [0] s := .step (a := a) ht ha hvt hks
    have hsr := RS_rngB h hs
    have htr := RS_rngF h h0 ht
    have k1 := keep_of hsr.1 hb hs
    have k2 := keep_of htr.1 ht (.step hs ha hk hv)
    exact .step (ih hb) (mem_part ha (by rw [hvt]; exact k2) (by rw [hks]; exact k1)) (by show ((cntK (keepK m) a.t.toNat : Nat) : Int) = _; rw [hks]) (by show ((cntK (keepK m) a.f.toNat : Nat) : Int) = _; rw [hvt])
theorem part_keep (h0 : 0 < m.n.toNat) {i : Nat} (hi : i < cntK (keepK m) m.n.toNat) : keepK (partM m (keepK m)) i = true := by
  obtain ⟨s, hs, hk, rfl⟩ := cntK_onto _ _ hi
  obtain ⟨h1, h2⟩ := keepK_iff.1 hk
  have e : ((s : Nat) : Int).toNat = s := by omega
  have f1 := part_fwd h h0 h1 h2
  have f2 := part_bwd h h0 h2 h1
  rw [e] at f1 f2
  exact keepK_iff.2 ⟨f1, f2⟩
theorem part_n (h0 : 0 < m.n.toNat) : (partM m (keepK m)).n.toNat = cntK (keepK m) m.n.toNat := by
  have := h0
  have := h.n0
  unfold partM
  show ((cntK (keepK m) m.n.toNat : Nat) : Int).toNat = _
  omega
theorem part_rngA {a : Arc} (ha : a ∈ (partM m (keepK m)).arcs) : 0 ≤ a.f ∧ a.f < ((cntK (keepK m) m.n.toNat : Nat) : Int) ∧ 0 ≤ a.t ∧ a.t < ((cntK (keepK m) m.n.toNat : Nat) : Int) ∧ ∃ b, b ∈ m.arcs ∧ a = partArc (keepK m) b := by
  obtain ⟨b, hb, rfl⟩ := List.mem_map.1 ha
  obtain ⟨hb, hk⟩ := List.mem_filter.1 hb
  rw [Bool.and_eq_true] at hk
  have hr := h.inRange b hb
  have c1 := cntK_strict (K := keepK m) (show b.f.toNat < m.n.toNat by omega) hk.1
  have c2 := cntK_strict (K := keepK m) (show b.t.toNat < m.n.toNat by omega) hk.2
  exact ⟨by show 0 ≤ ((cntK (keepK m) b.f.toNat : Nat) : Int); omega, by show ((cntK (keepK m) b.f.toNat : Nat) : Int) < _; omega, by show 0 ≤ ((cntK (keepK m) b.t.toNat : Nat) : Int); omega, by show ((cntK (keepK m) b.t.toNat : Nat) : Int) < _; omega, b, hb, rfl⟩
theorem part_rngF {x : Fnl} (hx : x ∈ (partM m (keepK m)).fins) : 0 ≤ x.s ∧ x.s < ((cntK (keepK m) m.n.toNat : Nat) : Int) ∧ ∃ b, b ∈ m.fins ∧ x = partFin (keepK m) b := by
  obtain ⟨b, hb, rfl⟩ := List.mem_map.1 hx
  obtain ⟨hb, hk⟩ := List.mem_filter.1 hb
  have hr := h.finRange b hb
  have c1 := cntK_strict (K := keepK m) (show b.s.toNat < m.n.toNat by omega) hk
  exact ⟨by show 0 ≤ ((cntK (keepK m) b.s.toNat : Nat) : Int); omega, by show ((cntK (keepK m) b.s.toNat : Nat) : Int) < _; omega, b, hb, rfl⟩
theorem part_self (h0 : 0 < m.n.toNat) : partM (partM m (keepK m)) (keepK (partM m (keepK m))) = partM m (keepK m) := by
  have hk : ∀ i, i < cntK (keepK m) m.n.toNat → keepK (partM m (keepK m)) i = true := fun i hi => part_keep h h0 hi
  have hn := part_n h h0
  have hc : ∀ i, i ≤ cntK (keepK m) m.n.toNat → cntK (keepK (partM m (keepK m))) i = i := fun i hi => cntK_all i (fun s hs => hk s (by omega))
  generalize hM : partM m (keepK m) = t at *
  have e0 : (cntK (keepK t) t.n.toNat : Int) = t.n := by
    rw [hn, hc _ (Nat.le_refl _), ← hM]; rfl
  have e1 : partArcs (keepK t) t.arcs = t.arcs := by
    unfold partArcs
    have hr : ∀ a ∈ t.arcs, 0 ≤ a.f ∧ a.f < ((cntK (keepK m) m.n.toNat : Nat) : Int) ∧ 0 ≤ a.t ∧ a.t < ((cntK (keepK m) m.n.toNat : Nat) : Int) := fun a ha => by
      rw [← hM] at ha
      have := part_rngA h ha
      exact ⟨this.1, this.2.1, this.2.2.1, this.2.2.2.1⟩
    rw [List.filter_eq_self.2 (fun a ha => by have := hr a ha; rw [hk _ (by omega), hk _ (by omega)]; rfl)]
    refine (List.map_congr_left fun a ha => ?_).trans (List.map_id _)
    have := hr a ha
    unfold partArc
    rw [hc _ (by omega), hc _ (by omega)]
    exact Arc.ext' (by show ((a.f.toNat : Nat) : Int) = a.f; omega) (by show ((a.t.toNat : Nat) : Int) = a.t; omega) rfl rfl rfl
  have e2 : partFins (keepK t) t.fins = t.fins := by
    unfold partFins
    have hr : ∀ a ∈ t.fins, 0 ≤ a.s ∧ a.s < ((cntK (keepK m) m.n.toNat : Nat) : Int) := fun a ha => by
      rw [← hM] at ha
      have := part_rngF h ha
      exact ⟨this.1, this.2.1⟩
    rw [List.filter_eq_self.2 (fun a ha => by have := hr a ha; rw [hk _ (by omega)])]
    refine (List.map_congr_left fun a ha => ?_).trans (List.map_id _)
    have := hr a ha
    unfold partFin
    rw [hc _ (by omega)]
    exact Fnl.ext' (by show ((a.s.toNat : Nat) : Int) = a.s; omega) rfl
  show (⟨_, _, _⟩ : Mach) = t
  rw [e0, e1, e2]
theorem arcs_sorted : m.arcs.Pairwise (fun a b => arcLess a b = true) :=
  pairwise_of_step (R := fun a b => arcLess a b = true) (fun a b c h1 h2 => lessL_trans (arcKey a) (arcKey b) (arcKey c) h1 h2) dA m.arcs (fun k hk => by
    have := (arcFault_none (h.arc (k + 1) hk)).2 (by omega)
    rw [show k + 1 - 1 = k by omega] at this
    rw [arcLess_cmp, decide_eq_false this]; rfl)
theorem fins_sorted : m.fins.Pairwise (fun a b => a.s < b.s) :=
  pairwise_of_step (R := fun a b => a.s < b.s) (fun a b c h1 h2 => by omega) dF m.fins (fun k hk => by
    have := (finFault_none (h.fin (k + 1) hk)).2 (by omega)
    rw [show k + 1 - 1 = k by omega] at this
    exact this)
theorem part_sortedA : (partArcs (keepK m) m.arcs).Pairwise (fun a b => arcLess a b = true) := by
  unfold partArcs
  refine List.pairwise_map.2 (List.Pairwise.imp_of_mem (fun {a b} ha hb hab => ?_) ((arcs_sorted h).filter _))
  obtain ⟨ha, hka⟩ := List.mem_filter.1 ha
  obtain ⟨hb, hkb⟩ := List.mem_filter.1 hb
  rw [Bool.and_eq_true] at hka hkb
  have ra := h.inRange a ha
  have rb := h.inRange b hb
  exact lessL_img (fun e => num_mono (by omega) hka.1 e) (fun e => by show ((cntK (keepK m) a.f.toNat : Nat) : Int) = ((cntK (keepK m) b.f.toNat : Nat) : Int); rw [e]) (fun e => num_mono (by omega) hka.2 e) (fun e => by show ((cntK (keepK m) a.t.toNat : Nat) : Int) = ((cntK (keepK m) b.t.toNat : Nat) : Int); rw [e]) hab
theorem part_sortedF : (partFins (keepK m) m.fins).Pairwise (fun a b => a.s < b.s) := by
  unfold partFins
  refine List.pairwise_map.2 (List.Pairwise.imp_of_mem (fun {a b} ha hb hab => ?_) ((fins_sorted h).filter _))
  obtain ⟨ha, hka⟩ := List.mem_filter.1 ha
  have ra := h.finRange a ha
  exact num_mono (by omega) hka hab
theorem part_valid : Valid (partM m (keepK m)) := by
  have hl := cntK_le (keepK m) m.n.toNat
  have h0 := h.n0
  have h4 := h.n4
  refine ⟨by show 0 ≤ ((cntK (keepK m) m.n.toNat : Nat) : Int); omega, by show ((cntK (keepK m) m.n.toNat : Nat) : Int) ≤ 400; omega, Nat.le_trans (partArcs_len _ _) h.len, fun k hk => ?_, fun k hk => ?_⟩
  · have hm : (partM m (keepK m)).arcs.getD k dA ∈ (partM m (keepK m)).arcs := by
      simp [List.getD_eq_getElem?_getD, List.getElem?_eq_getElem hk]
    obtain ⟨r1, r2, r3, r4, b, hb, e⟩ := part_rngA h hm
    have ob := okArc_iff (h.okA hb)
    have ok : okArc (partM m (keepK m)).n ((partM m (keepK m)).arcs.getD k dA) = true := by
      simp only [okArc, Bool.and_eq_true, inR_iff]
      refine ⟨⟨⟨⟨⟨r1, ?_⟩, r3, ?_⟩, ?_⟩, ?_⟩, ?_⟩
      · show _ ≤ ((cntK (keepK m) m.n.toNat : Nat) : Int) - 1; omega
      · show _ ≤ ((cntK (keepK m) m.n.toNat : Nat) : Int) - 1; omega
      · rw [e]; exact ⟨ob.2.2.2.2.1, ob.2.2.2.2.2.1⟩
      · rw [e]; exact ⟨ob.2.2.2.2.2.2.1, ob.2.2.2.2.2.2.2.1⟩
      · rw [e]; exact ⟨ob.2.2.2.2.2.2.2.2.1, ob.2.2.2.2.2.2.2.2.2⟩
    unfold arcFault
    rw [if_pos ok, if_neg]
    rintro ⟨hk0, hc⟩
    have hp := step_of_pairwise dA (part_sortedA h) (k := k - 1) (by rw [show k - 1 + 1 = k by omega]; exact hk)
    rw [show k - 1 + 1 = k by omega, arcLess_cmp] at hp
    have hc' : 0 ≤ arcCmp ((partArcs (keepK m) m.arcs).getD (k - 1) dA) ((partArcs (keepK m) m.arcs).getD k dA) := hc
    rw [decide_eq_true hc'] at hp
    cases hp
  · have hm : (partM m (keepK m)).fins.getD k dF ∈ (partM m (keepK m)).fins := by
      simp [List.getD_eq_getElem?_getD, List.getElem?_eq_getElem hk]
    obtain ⟨r1, r2, b, hb, e⟩ := part_rngF h hm
    have ob := okFin_iff (h.okF hb)
    have ok : okFin (partM m (keepK m)).n ((partM m (keepK m)).fins.getD k dF) = true := by
      simp only [okFin, Bool.and_eq_true, inR_iff]
      refine ⟨⟨r1, ?_⟩, ?_⟩
      · show _ ≤ ((cntK (keepK m) m.n.toNat : Nat) : Int) - 1; omega
      · rw [e]; exact ⟨ob.2.2.1, ob.2.2.2⟩
    unfold finFault
    rw [if_pos ok, if_neg]
    rintro ⟨hk0, hc⟩
    have hp := step_of_pairwise dF (part_sortedF h) (k := k - 1) (by rw [show k - 1 + 1 = k by omega]; exact hk)
    rw [show k - 1 + 1 = k by omega] at hp
    have hc' : ((partFins (keepK m) m.fins).getD k dF).s ≤ ((partFins (keepK m) m.fins).getD (k - 1) dF).s := hc
    omega
end
theorem trim_valid {m : Mach} (h : Valid m) : Valid (trimOf m) := by
  unfold trimOf
  split
  · exact ⟨by simp [emptyM], by simp [emptyM], by simp [emptyM], fun k hk => by simp [emptyM] at hk, fun k hk => by simp [emptyM] at hk⟩
  · exact part_valid h
theorem trim_idem {m : Mach} (h : Valid m) : trimOf (trimOf m) = trimOf m := by
  by_cases hc : m.n = 0 ∨ keepK m 0 = false
  · have e : trimOf m = emptyM := by unfold trimOf; rw [if_pos hc]
    rw [e]
    unfold trimOf
    rw [if_pos (.inl rfl)]
  · have e : trimOf m = partM m (keepK m) := by unfold trimOf; rw [if_neg hc]
    have hn0 : 0 < m.n.toNat := by have := h.n0; have : m.n ≠ 0 := fun e => hc (.inl e); omega
    have hk0 : keepK m 0 = true := by
      cases ek : keepK m 0
      · exact absurd (.inr ek) hc
      · rfl
    rw [e]
    have hpos : 0 < cntK (keepK m) m.n.toNat := cntK_strict (K := keepK m) (s := 0) hn0 hk0
    unfold trimOf
    rw [if_neg, part_self h hn0]
    rintro (h1 | h1)
    · have h2 : ((cntK (keepK m) m.n.toNat : Nat) : Int) = 0 := h1
      omega
    · rw [part_keep h hn0 hpos] at h1; cases h1
end Gm
