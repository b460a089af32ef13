/- What the law on tables needs: the trimmed machine of a table fits Few; the size of the least machine; the example. Plain law. No program in sight. -/
import Derived.Test.YtopakcbhodnipaaDqZ
import Derived.Test.YtopakcbhodnipaaSmP
import Derived.Test.YtopakcbhodnipaaPlT
namespace Gm
set_option linter.unusedSimpArgs false
set_option linter.unusedVariables false
/-- What Few asks of a machine. -/
structure FewOk (m : Mach) (S : Nat) : Prop where
  n : m.n = (S : Int)
  rng : inRange m.arcs S
  len : m.arcs.length ≤ 1000000
  wt : ∀ x ∈ m.fins, 0 ≤ x.w
  tab : Tab (lsM m) (rowM m) (finM' m) S
  lab : (lsM m).length ≤ 2000
  use : 0 < S → ∃ v, langM m 0 v
  none : S = 0 → ¬ ∃ v, langM m 0 v
theorem cntK_lt' {K : Nat → Bool} {s n : Nat} (h : s < n) (hs : K s = true) : cntK K s < cntK K n := cntK_strict h hs
theorem inc_sub {l k : List Int} (hl : l.Pairwise (· < ·)) (h : ∀ x ∈ l, x ∈ k) : l.length ≤ k.length := by
  induction l generalizing k with
  | nil => exact Nat.zero_le _
  | cons x l ih =>
    obtain ⟨h1, h2⟩ := List.pairwise_cons.1 hl
    have hx := h x List.mem_cons_self
    have h3 := ih (k := k.erase x) h2 fun y hy => (List.mem_erase_of_ne (fun (e : y = x) => by have := h1 y hy; omega)).2 (h y (List.mem_cons_of_mem _ hy))
    have h4 := List.length_erase_of_mem hx
    have h5 := List.length_pos_of_mem hx
    rw [List.length_cons]; omega
theorem lab_part {ls : List Int} {row : Nat → List Int} {fin : Nat → Bool} {n : Nat} : ∀ x ∈ lsM (partM (tabM ls row fin n) (keepK (tabM ls row fin n))), x ∈ ls := fun x hx => by
  obtain ⟨_, a, ha, e⟩ := (labsR_mem _ _).1 hx
  obtain ⟨s, _, y, u, hy, _, _, rfl⟩ := part_arc.1 ha
  obtain ⟨j, p, h1, _⟩ := mem_tstp.1 hy
  have e : y = x := e
  rw [← e]
  exact List.mem_of_getElem? h1
theorem few_ok {ls : List Int} {row : Nat → List Int} {fin : Nat → Bool} {n : Nat} (hi : ls.Pairwise (· < ·)) (h0 : ∀ x ∈ ls, x ≠ 0) (hr : ∀ s, s < n → ∀ t ∈ row s, t < (n : Int)) (hz : n = 0 → ¬ ∃ w, accS (tstp ls row) fin 0 w) (hl : ls.length ≤ 2000) (ha : (tabA ls row n).length ≤ 1000000) :
    ∃ S : Nat, S ≤ n ∧ FewOk (trimOf (tabM ls row fin n)) S ∧ canonM (lsM (trimOf (tabM ls row fin n))) (langM (trimOf (tabM ls row fin n)) 0) S = canonM ls (accS (tstp ls row) fin 0) n := by
  obtain ⟨hT, hU, hS, hN, hC⟩ := few_tab (fin := fin) hi h0 hr hz
  have hMn : (tabM ls row fin n).n = (n : Int) := rfl
  have hnn : (tabM ls row fin n).n.toNat = n := by rw [hMn]; simp
  refine ⟨(trimOf (tabM ls row fin n)).n.toNat, hS, ?_, hC⟩
  by_cases hc : (tabM ls row fin n).n = 0 ∨ keepK (tabM ls row fin n) 0 = false
  · have ht : trimOf (tabM ls row fin n) = ⟨0, [], []⟩ := by unfold trimOf; rw [if_pos hc]; rfl
    rw [ht] at hT hU ⊢
    refine ⟨rfl, (fun a ha => by cases ha), Nat.zero_le _, (fun x hx => by cases hx), hT, Nat.zero_le _, hU, fun _ => ?_⟩
    rintro ⟨w, hw⟩
    exact lang_empty 0 w hw
  · have ht : trimOf (tabM ls row fin n) = partM (tabM ls row fin n) (keepK (tabM ls row fin n)) := by unfold trimOf; rw [if_neg hc]
    have hk0 : keepK (tabM ls row fin n) 0 = true := by
      cases h : keepK (tabM ls row fin n) 0
      · exact absurd (.inr h) hc
      · rfl
    have hn' : 0 < n := by
      rcases Nat.eq_zero_or_pos n with h | h
      · exact absurd (.inl (by rw [hMn, h]; rfl)) hc
      · exact h
    rw [ht] at hT hU hS ⊢
    have hSn : (partM (tabM ls row fin n) (keepK (tabM ls row fin n))).n.toNat = cntK (keepK (tabM ls row fin n)) n := by
      show ((cntK (keepK (tabM ls row fin n)) (tabM ls row fin n).n.toNat : Nat) : Int).toNat = _
      rw [hnn]; simp
    have hpos : 0 < cntK (keepK (tabM ls row fin n)) n := by have := cntK_lt' hn' hk0; omega
    refine ⟨?_, fun a ha' => ?_, ?_, fun x hx => ?_, hT, ?_, hU, fun h => by omega⟩
    · show ((cntK (keepK (tabM ls row fin n)) (tabM ls row fin n).n.toNat : Nat) : Int) = _
      rw [hSn, hnn]
    · obtain ⟨s, hs, x, u, hx, k1, k2, rfl⟩ := part_arc.1 ha'
      have h1 := cntK_lt' hs k1
      have h2 := cntK_lt' (stp_rng hr hs hx) k2
      rw [hSn]
      dsimp only
      omega
    · exact Nat.le_trans (partArcs_len _ _) ha
    · have hx : x ∈ partFins (keepK (tabM ls row fin n)) (tabF fin n) := hx
      unfold partFins at hx
      obtain ⟨y, hy, rfl⟩ := List.mem_map.1 hx
      obtain ⟨s, _, _, rfl⟩ := mem_tabF.1 (List.mem_filter.1 hy).1
      exact Int.le_refl _
    · exact Nat.le_trans (inc_sub hT.inc lab_part) hl
/-- The least machine has no more states than the table. -/
theorem canT_n {l : List Int} {L : List (List Int)} {F : List Bool} (h : SmOk l L F.length) : (canT l L F).n ≤ (L.length : Int) := by
  classical
  by_cases hw : ∃ w, accS (tstp l (rowOf L)) (finOf F) 0 w
  · rcases Nat.eq_zero_or_pos L.length with h0 | h0
    · exact absurd hw (none_zero h0 h.fin)
    · obtain ⟨Z, hZ1, hZ⟩ := (reg_tab (fin := finOf F) h.inc h.pos h.rngs h0).res
      obtain ⟨k, hn, _, hm, e⟩ := bfsM_all (stpQ l) finQ hZ hZ1
      unfold canT canonM
      rw [if_pos hw, e]
      show ((k.length : Nat) : Int) ≤ _
      have : ∀ {a b : List Lang}, a.Nodup → (∀ x ∈ a, x ∈ b) → a.length ≤ b.length := by
        intro a
        induction a with
        | nil => intros; exact Nat.zero_le _
        | cons x a ih =>
          intro b hn hs
          obtain ⟨h1, h2⟩ := List.nodup_cons.1 hn
          have hx := hs x List.mem_cons_self
          have h3 := ih (b := b.erase x) h2 fun y hy => (List.mem_erase_of_ne (fun (e : y = x) => h1 (e ▸ hy))).2 (hs y (List.mem_cons_of_mem _ hy))
          have h4 := List.length_erase_of_mem hx
          have h5 := List.length_pos_of_mem hx
          rw [List.length_cons]; omega
      have := this hn fun v hv => hZ v ((hm v).1 hv)
      omega
  · rw [canT_none hw]
    show (0 : Int) ≤ _
    omega
/-! The example of the law: a table of three states. -/
def exL : List (List Int) := [[1], [-1], [1]]
def exF : List Bool := [false, true, true]
def letM : Mach := ⟨2, [⟨0, 1, 97, 97, 0⟩], [⟨1, 0⟩]⟩
theorem ex_tbl : tblF [97] exL exF.length = (0, 0) := by decide
theorem ex_ok : SmOk [97] exL exF.length := (tblF_zero (by rw [ex_tbl])).2.sm
theorem ex_use : ∀ s, s < exL.length → ((fun _ => true : Nat → Bool) s = true ↔ ∃ w, accS (tstp [97] (rowOf exL)) (finOf exF) s w) := fun s hs => by
  refine ⟨fun _ => ?_, fun _ => rfl⟩
  have hs : s < 3 := hs
  rcases (by omega : s = 0 ∨ s = 1 ∨ s = 2) with rfl | rfl | rfl
  · exact ⟨[97], 1, by decide, rfl⟩
  · exact ⟨[], rfl⟩
  · exact ⟨[], rfl⟩
theorem ex_cln : (fun s => cleanR (fun _ => true) (rowOf exL s)) = rowOf exL := by
  funext s
  unfold cleanR
  have : (fun t : Int => if 0 ≤ t ∧ (fun _ : Nat => true) t.toNat = false then (-1 : Int) else t) = id := by funext t; simp
  rw [this, List.map_id]
theorem ex_smi : SmI [97] exL exF (fun _ => true) (fun s => s) 3 := by
  refine ⟨ex_ok, ex_use, ⟨by decide, rfl⟩, fun s hs => hs, fun i hi => ⟨i, hi, rfl⟩, fun s t hs ht => ⟨fun e => by subst e; exact fun w => Iff.rfl, fun h => ?_⟩, Nat.le_refl _⟩
  rw [ex_cln] at h
  have hs : s < 3 := hs
  have ht : t < 3 := ht
  have e1 := h []
  have e2 := h [97]
  have f0 : ¬ accS (tstp [97] (rowOf exL)) (finOf exF) 0 [] := by intro h; cases h
  have f1 : accS (tstp [97] (rowOf exL)) (finOf exF) 1 [] := rfl
  have f2 : accS (tstp [97] (rowOf exL)) (finOf exF) 2 [] := rfl
  have g1 : ¬ accS (tstp [97] (rowOf exL)) (finOf exF) 1 [97] := by
    rintro ⟨u, hu, _⟩
    have : tstp [97] (rowOf exL) 1 = [] := by decide
    rw [this] at hu
    cases hu
  have g2 : accS (tstp [97] (rowOf exL)) (finOf exF) 2 [97] := ⟨1, by decide, rfl⟩
  rcases (by omega : s = 0 ∨ s = 1 ∨ s = 2) with rfl | rfl | rfl <;> rcases (by omega : t = 0 ∨ t = 1 ∨ t = 2) with rfl | rfl | rfl
  · rfl
  · exact absurd (e1.2 f1) f0
  · exact absurd (e1.2 f2) f0
  · exact absurd (e1.1 f1) f0
  · rfl
  · exact absurd (e2.2 g2) g1
  · exact absurd (e1.1 f2) f0
  · exact absurd (e2.1 g2) g1
  · rfl
theorem ex_canT : canT [97] exL exF = letM := by
  rw [← ex_smi.canT_eq]
  decide
theorem ex_least : leastR [97] exL exF = (letM, (0, 0)) := by
  rw [leastR_ok ex_tbl, ex_canT]
  unfold limR
  rw [if_neg (by decide)]
end Gm
