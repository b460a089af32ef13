/- slices.Clone at arcs and final states; compose.Reduce, walked. -/
import Derived.Test.YtmgpcnkmmgkjgaaCmW
namespace Go.Proofs.Ytmgpcnkmmgkjgaa
open Go.RowKit Gm Go.Sort Go.Shelf
set_option linter.unusedSimpArgs false
set_option linter.unusedVariables false
theorem clonea_any (A : Option Addr) (n c : Nat) (l : List Arc) (w : World) (B : Nat) (hl : l.length = n) (hn : n ≤ 1000000) (h : Rd w B 5 A n (arcCell l)) :
    Calls Try.prog 62 #[.slice A n c] w fun e w' => ∃ v, e = .returned v ∧ w'.ownsRow w.heap.size 45 5 v n (arcRow l) ∧ Below w.heap.size w w' := by
  obtain ⟨i0, hi0, hz0, hz1, hz2⟩ := info_parts arc_info
  have hA : A = none → n = 0 := by
    intro e
    rcases Nat.eq_zero_or_pos n with h0 | h0
    · exact h0
    · obtain ⟨b, off, h1, _⟩ := h h0
      rw [e] at h1; cases h1
  have he := fun W => Lib.run_eql_slice_nil (P := Try.prog) W 22 45 A n c 0 0 Try.underlying22
  rcases A with _ | ad
  · have h0 := hA rfl
    subst h0
    obtain rfl : l = [] := List.eq_nil_of_length_eq_zero hl
    go_enter Try.func62, Try.ntmps62
    go_wp2
    go_ret
    exact ⟨_, rfl, World.ownsRow_nil _ _ _ _, Below.refl _ _⟩
  · go_enter Try.func62, Try.ntmps62
    have h' : Rd (w.alloc (Obj.cells #[] 45)) B 5 (some ad) n (arcCell l) := by
      intro h0
      obtain ⟨b, off, h1, h2, h3⟩ := h h0
      refine ⟨b, off, h1, h2, fun i j hi hj => ?_⟩
      have h4 := h3 i j hi hj
      rw [World.cell?_alloc_lt _ _ _ (World.block_lt_of_cell? w _ h4)]; exact h4
    go_wp2_with (at_builtin; refine wpList_append_any _ rfl (.tmp 5) (.tmp 6) _ rfl w.heap.size 45 i0 _ 5 40 Try.underlying22 hi0 hz0 hz1 hz2 rfl (by omega) (.slice (some ⟨w.heap.size, 0, none⟩) 0 0) 0 [] rfl (World.ownsRow_made _ _ 0 (Nat.le_refl _) (by simp [maxLen]) (by simp)) B (some ad) n c (arcRow l) (arcCell l) rfl h' (by simp) (by rw [arcRow_length, hl]) (hl ▸ arcRow_at l) (arcRow_one l) (by simp only [maxLen]; omega) (by omega) (by simp) ?_; intro v' w1 hown hg hat)
    have hbw : Below w.heap.size w w1 := ((Below.refl w.heap.size w).alloc (Nat.le_refl _) _).grown hg (by simp) (by simp [Value.ownBlock])
    go_ret
    refine ⟨v', rfl, ?_, hbw⟩
    simpa using hown
theorem clonef_any (A : Option Addr) (n c : Nat) (l : List Fnl) (w : World) (B : Nat) (hl : l.length = n) (hn : n ≤ 1000000) (h : Rd w B 2 A n (finCell l)) :
    Calls Try.prog 52 #[.slice A n c] w fun e w' => ∃ v, e = .returned v ∧ w'.ownsRow w.heap.size 51 2 v n (finRow l) ∧ Below w.heap.size w w' := by
  obtain ⟨i0, hi0, hz0, hz1, hz2⟩ := info_parts fin_info
  have hA : A = none → n = 0 := by
    intro e
    rcases Nat.eq_zero_or_pos n with h0 | h0
    · exact h0
    · obtain ⟨b, off, h1, _⟩ := h h0
      rw [e] at h1; cases h1
  have he := fun W => Lib.run_eql_slice_nil (P := Try.prog) W 23 51 A n c 0 0 Try.underlying23
  rcases A with _ | ad
  · have h0 := hA rfl
    subst h0
    obtain rfl : l = [] := List.eq_nil_of_length_eq_zero hl
    go_enter Try.func52, Try.ntmps52
    go_wp2
    go_ret
    exact ⟨_, rfl, World.ownsRow_nil _ _ _ _, Below.refl _ _⟩
  · go_enter Try.func52, Try.ntmps52
    have h' : Rd (w.alloc (Obj.cells #[] 51)) B 2 (some ad) n (finCell l) := by
      intro h0
      obtain ⟨b, off, h1, h2, h3⟩ := h h0
      refine ⟨b, off, h1, h2, fun i j hi hj => ?_⟩
      have h4 := h3 i j hi hj
      rw [World.cell?_alloc_lt _ _ _ (World.block_lt_of_cell? w _ h4)]; exact h4
    go_wp2_with (at_builtin; refine wpList_append_any _ rfl (.tmp 5) (.tmp 6) _ rfl w.heap.size 51 i0 _ 2 16 Try.underlying23 hi0 hz0 hz1 hz2 rfl (by omega) (.slice (some ⟨w.heap.size, 0, none⟩) 0 0) 0 [] rfl (World.ownsRow_made _ _ 0 (Nat.le_refl _) (by simp [maxLen]) (by simp)) B (some ad) n c (finRow l) (finCell l) rfl h' (by simp) (by rw [finRow_length, hl]) (hl ▸ finRow_at l) (finRow_one l) (by simp only [maxLen]; omega) (by omega) (by simp) ?_; intro v' w1 hown hg hat)
    have hbw : Below w.heap.size w w1 := ((Below.refl w.heap.size w).alloc (Nat.le_refl _) _).grown hg (by simp) (by simp [Value.ownBlock])
    go_ret
    refine ⟨v', rfl, ?_, hbw⟩
    simpa using hown
set_option maxRecDepth 100000 in
set_option maxHeartbeats 2000000 in
/-- compose.Reduce: the arcs in order; of those that differ only in weight the lightest one. -/
theorem reduce_any (A : Option Addr) (n c : Nat) (l : List Arc) (w : World) (B : Nat) (hB : B ≤ w.heap.size) (hl : l.length = n) (hn : n ≤ 1000000) (h : Rd w B 5 A n (arcCell l)) :
    Calls Try.prog 48 #[.slice A n c] w fun e w' => ∃ A' c', e = .returned (.slice A' (compact likeA (srtA l)).length c') ∧ w'.ownsRow w.heap.size 45 5 (.slice A' (compact likeA (srtA l)).length c') (compact likeA (srtA l)).length (arcRow (compact likeA (srtA l))) ∧ Below w.heap.size w w' := by
  have hC := fun W (hW : W = w) => clonea_any A n c l W B hl hn (by rw [hW]; exact h)
  have HC := hide hC
  have HLL := hide hl
  clear hC hl h
  go_enter Try.func48, Try.ntmps48
  go_wp2_with fail
  refine (HC.out _ rfl).mono ?_
  rintro e w1 ⟨v, rfl, hown1, hb1⟩
  obtain ⟨A1, c1, rfl, hnc1, hcm1⟩ := own_value hown1
  have HO1 := hide hown1
  have HB1 := hide hb1
  have hz1 := hb1.size
  clear hown1 hb1 HC
  go_wp2_with fail
  refine (sort_any l n w.heap.size _ w1 HLL.out (by omega) HO1.out).mono ?_
  rintro e w2 ⟨rfl, hown2, hg2⟩
  have HO2 := hide hown2
  have hz2 := hg2.size
  have HB2 := hide (HB1.out.grown hg2 hz1 (fun q hq => (HO1.out.lt q hq).1))
  clear hown2 hg2
  go_wp2_with fail
  refine (compactf_any (srtA l) n w.heap.size _ w2 (by rw [(srtA_perm l).length_eq, HLL.out]) (by omega) (by omega) HO2.out).mono ?_
  rintro e w3 ⟨A3, c3, rfl, hown3, hb3⟩
  have HO3 := hide hown3
  have HB3 := hide (HB2.out.trans hb3)
  clear hown3 hb3
  go_wp2
  go_ret
  exact ⟨A3, c3, rfl, HO3.out, HB3.out⟩
end Go.Proofs.Ytmgpcnkmmgkjgaa
