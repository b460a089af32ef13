/- The two closures of token.Cut: does a word go on at a point, a number? -/
import Derived.Test.YtcchpijadlgagaaDoorTkP
namespace Go.Proofs.YtcchpijadlgagaaDoor
open Go.RowKit Gm
set_option linter.unusedSimpArgs false
set_option linter.unusedVariables false
theorem insB_in {ps : List Int} {n i : Nat} (hl : ps.length = n) (h : i < n) {c : Int} (hc : cl ps i = c) : insB ps i = (c == 2 || c == 3) := by
  unfold insB
  rw [hl, hc]
  by_cases h2 : c = 2 <;> by_cases h3 : c = 3 <;> simp [h, h2, h3]
theorem insB_out {ps : List Int} {n i : Nat} (hl : ps.length = n) (h : ¬ i < n) : insB ps i = false := by
  unfold insB; rw [hl]; simp [h]
theorem digB_in {ps : List Int} {n i : Nat} (hl : ps.length = n) (h : i < n) {c : Int} (hc : cl ps i = c) : digB ps i = (c == 4) := by
  unfold digB
  rw [hl, hc]
  by_cases h2 : c = 4 <;> simp [h, h2]
theorem digB_out {ps : List Int} {n i : Nat} (hl : ps.length = n) (h : ¬ i < n) : digB ps i = false := by
  unfold digB; rw [hl]; simp [h]
theorem classOf_at (p c : Int) (hs : scal p = true) (hc : clsP p = c) (w : World) :
    Calls Tryd.prog 28 #[.int .i64 p] w fun e w' => e = .returned (.int .i64 c) ∧ Below w.heap.size w w' := by
  subst hc; exact classOf_any p w hs
/-- What the point i is to a walk: its cell, its class. -/
theorem point_at {w : World} {B n : Nat} {A : Option Addr} {ps : List Int} (HL : Hid (ps.length = n)) (HA : Hid (allS ps)) (h : Rd w B 1 A n (intCell ps)) {i : Nat} (hi : i < n) :
    ∃ b off p, A = some ⟨b, off, none⟩ ∧ b < B ∧ w.cell? ⟨b, off + i, none⟩ = some (.int .i64 p) ∧ Hid (ps.getD i 0 = p) ∧ Hid (scal p = true) ∧ Hid (clsP p = cl ps i) ∧ 0 ≤ p ∧ p ≤ 1114111 := by
  obtain ⟨b, off, h1, h2, h3⟩ := h.at1 hi
  have hs := HA.out _ (getI_mem (by rw [HL.out]; exact hi : i < ps.length))
  have := scal_iff.1 hs
  exact ⟨b, off, ps.getD i 0, h1, h2, h3, hide rfl, hide hs, hide rfl, by omega, by omega⟩
theorem inside_any (ps : List Int) (i g B n c : Nat) (A : Option Addr) (w : World) (hc : w.cell? ⟨g, 0, none⟩ = some (.slice A n c)) (HL : Hid (ps.length = n)) (hn : n ≤ 4000) (h : Rd w B 1 A n (intCell ps)) (hB : B ≤ w.heap.size) (HA : Hid (allS ps)) (hi : i ≤ n + 1) :
    Calls Tryd.prog 27 #[.int .i64 i, .pointer (some ⟨g, 0, none⟩)] w fun e w' => e = .returned (.bool (insB ps i)) ∧ Below w.heap.size w w' := by
  have hg : g < w.heap.size := by have := World.block_lt_of_cell? w _ hc; simpa using this
  by_cases hin : i < n
  · obtain ⟨b, off, p, rfl, hb, c0, _, HS, HC, _⟩ := point_at HL HA h hin
    clear h
    have hbz : b < w.heap.size := by omega
    obtain ⟨q, hq⟩ : ∃ q, q = cl ps i := ⟨_, rfl⟩
    rw [← hq] at HC
    have HI := hide (insB_in HL.out hin hq.symm)
    clear hq
    by_cases h2 : q = 2
    · subst h2
      rw [HI.out]
      go_enter Tryd.func27, Tryd.ntmps27
      go_wp2_with fail
      refine (classOf_at _ _ HS.out HC.out _).mono ?_
      rintro e w1 ⟨rfl, hb1⟩
      have hc1 := keep_cell hb1 hc hg
      have c1 := keep_cell hb1 c0 hbz
      go_wp2
      go_ret
      exact ⟨rfl, hb1⟩
    · have hq2 : (q == 2) = false := by simp [h2]
      have e3 : insB ps i = (q == 3) := by rw [HI.out, hq2]; rfl
      rw [e3]
      clear h2 e3
      obtain ⟨bb, hbb⟩ : ∃ bb, (q == 3) = bb := ⟨_, rfl⟩
      go_enter Tryd.func27, Tryd.ntmps27
      go_wp2_with fail
      refine (classOf_at _ _ HS.out HC.out _).mono ?_
      rintro e w1 ⟨rfl, hb1⟩
      have hc1 := keep_cell hb1 hc hg
      have c1 := keep_cell hb1 c0 hbz
      have hz1 := hb1.size
      have hg1 : g < w1.heap.size := by omega
      have hbz1 : b < w1.heap.size := by omega
      go_wp2_with fail
      refine (classOf_at _ _ HS.out HC.out _).mono ?_
      rintro e w2 ⟨rfl, hb2⟩
      have hb3 := hb1.trans (hb2.mono hz1)
      clear hb1 hb2
      go_wp2
      go_ret
      exact ⟨ret_bool hbb.symm, hb3⟩
  · have HI := hide (insB_out HL.out hin)
    rw [HI.out]
    go_enter Tryd.func27, Tryd.ntmps27
    go_wp2
    go_ret
    exact ⟨rfl, Below.refl _ _⟩
theorem digit_any (ps : List Int) (i g B n c : Nat) (A : Option Addr) (w : World) (hc : w.cell? ⟨g, 0, none⟩ = some (.slice A n c)) (HL : Hid (ps.length = n)) (hn : n ≤ 4000) (h : Rd w B 1 A n (intCell ps)) (hB : B ≤ w.heap.size) (HA : Hid (allS ps)) (hi : i ≤ n + 1) :
    Calls Tryd.prog 29 #[.int .i64 i, .pointer (some ⟨g, 0, none⟩)] w fun e w' => e = .returned (.bool (digB ps i)) ∧ Below w.heap.size w w' := by
  have hg : g < w.heap.size := by have := World.block_lt_of_cell? w _ hc; simpa using this
  by_cases hin : i < n
  · obtain ⟨b, off, p, rfl, hb, c0, _, HS, HC, _⟩ := point_at HL HA h hin
    clear h
    have hbz : b < w.heap.size := by omega
    obtain ⟨q, hq⟩ : ∃ q, q = cl ps i := ⟨_, rfl⟩
    rw [← hq] at HC
    have HI := hide (digB_in HL.out hin hq.symm)
    clear hq
    rw [HI.out]
    obtain ⟨bb, hbb⟩ : ∃ bb, (q == 4) = bb := ⟨_, rfl⟩
    go_enter Tryd.func29, Tryd.ntmps29
    go_wp2_with fail
    refine (classOf_at _ _ HS.out HC.out _).mono ?_
    rintro e w1 ⟨rfl, hb1⟩
    go_wp2
    go_ret
    exact ⟨ret_bool hbb.symm, hb1⟩
  · have HI := hide (digB_out HL.out hin)
    rw [HI.out]
    go_enter Tryd.func29, Tryd.ntmps29
    go_wp2
    go_ret
    exact ⟨rfl, Below.refl _ _⟩
end Go.Proofs.YtcchpijadlgagaaDoor
