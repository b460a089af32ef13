/- The reference's finish, walked. Written by gen_rf.py. -/
import Derived.Test.YtmgpcnkmmgkjgaaSdW
namespace Go.Proofs.Ytmgpcnkmmgkjgaa
open Go.RowKit Gm Go.Sort Go.Shelf
set_option linter.unusedSimpArgs false
set_option linter.unusedVariables false
set_option maxRecDepth 100000 in
set_option maxHeartbeats 4000000 in
theorem rfin_ok (n0 : Int) (l : List Arc) (k c : Nat) (A AF : Option Addr) (nf cf : Nat) (w : World) (hl : l.length = k) (hnd : l.Nodup) (hk : k ≤ 2000) (h0 : 0 ≤ n0 ∧ n0 ≤ 400) (hR : Rd w w.heap.size 5 A k (arcCell l)) :
    Calls Try.prog 43 #[.agg #[.int .i64 n0, .slice A k c, .slice AF nf cf]] w fun e w' => ∃ A' c', e = .returned (.tuple #[.agg #[.int .i64 n0, .slice A' k c', .slice AF nf cf], .agg #[.int .i64 0, .int .i64 0]]) ∧ w'.ownsRow w.heap.size 45 5 (.slice A' k c') k (arcRow (srtA l)) ∧ Below w.heap.size w w' := by
  have hls : (srtA l).length = k := by rw [(srtA_perm l).length_eq, hl]
  have hs : compact (sameA false) (srtA l) = srtA l := by
    have e : sameA false = eqA := by funext a b; unfold sameA; simp
    rw [e]; exact compact_all ((srtA_perm l).nodup_iff.2 hnd)
  have HS := hide (fun W (h : Rd W W.heap.size 5 A k (arcCell l)) => sorted_any A k c false l W W.heap.size (Nat.le_refl _) hl (by omega) h)
  rw [hs, hls] at HS
  have HRD := hide hR
  obtain ⟨h00, h01⟩ := h0
  have t1 : decide (n0 > 400) = false := decide_eq_false (by omega)
  have t1' : decide ((400 : Int) < n0) = false := decide_eq_false (by omega)
  have t2 : decide ((k : Int) > 2000) = false := decide_eq_false (by omega)
  have t2' : decide ((2000 : Int) < (k : Int)) = false := decide_eq_false (by omega)
  clear hl hls hs hnd hR
  go_enter Try.func43, Try.ntmps43
  go_wp2_with fail
  refine (HS.out _ ((HRD.out.below (show Below w.heap.size w _ by go_grown) (Nat.le_refl _)).mono (by simp <;> omega))).mono ?_
  rintro e w1 ⟨A', c', rfl, hown1, hb1⟩
  have bM1 : Blk w1 w.heap.size 25 #[.int .i64 n0, .slice A k c, .slice AF nf cf] := (((Blk.new w _ _).alloc _).alloc _).below hb1 (by simp <;> omega)
  have bR1 : Blk w1 (w.heap.size + 1) 25 #[.int .i64 0, .slice none 0 0, .slice none 0 0] := ((Blk.at_ (by simp)).alloc _).below hb1 (by simp <;> omega)
  have bF1 : Blk w1 (w.heap.size + 1 + 1) 28 #[.int .i64 0, .int .i64 0] := (Blk.at_ (by simp)).below hb1 (by simp)
  have HB1 := hide (Below.trans (show Below w.heap.size w _ by go_grown) (hb1.mono (by simp <;> omega)))
  have HO1 := hide (own_monoB hown1 (show w.heap.size + 1 + 1 + 1 ≤ _ by simp))
  have m0 := bM1.cell 0
  have m1 := bM1.cell 1
  have m2 := bM1.cell 2
  have mf1 := bM1.frozen 1
  simp at m0 m1 m2
  have lM := bM1.lt
  have lR := bR1.lt
  have lF := bF1.lt
  clear hown1 hb1 HS HRD
  have r0 := bR1.cell 0
  have r1 := bR1.cell 1
  have r2 := bR1.cell 2
  have s0 := bF1.cell 0
  have s1 := bF1.cell 1
  have rf0 := bR1.frozen 0
  have rf1 := bR1.frozen 1
  have rf2 := bR1.frozen 2
  have sf0 := bF1.frozen 0
  have sf1 := bF1.frozen 1
  simp at r0 r1 r2 s0 s1
  go_wp2
  refine bodyPost_ret (v := .tuple #[.agg #[.int .i64 n0, .slice A' k c', .slice AF nf cf], .agg #[.int .i64 0, .int .i64 0]]) (by simp [results, Try.results43, go_sem, lR, lF, lM, r0, r1, r2, s0, s1, rf0, rf1, rf2, sf0, sf1]) rfl ⟨A', c', rfl, ?_, ?_⟩
  · refine own_monoB (base := w.heap.size + 1 + 1 + 1) ?_ (by omega)
    refine ownsRow_setCell_below (ownsRow_setCell_below (ownsRow_setCell_below (ownsRow_setCell_below (ownsRow_setCell_below (ownsRow_setCell_below HO1.out ?_ _) ?_ _) ?_ _) ?_ _) ?_ _) ?_ _ <;> (dsimp only; omega)
  · refine Below.setCell (Below.setCell (Below.setCell (Below.setCell (Below.setCell (Below.setCell HB1.out ?_ _) ?_ _) ?_ _) ?_ _) ?_ _) ?_ _ <;> (dsimp only; omega)
set_option maxRecDepth 100000 in
set_option maxHeartbeats 4000000 in
theorem rfin_big1 (n0 : Int) (l : List Arc) (k c : Nat) (A AF : Option Addr) (nf cf : Nat) (w : World) (hl : l.length = k) (hnd : l.Nodup) (hk : k ≤ 6402) (h0 : 400 < n0) (hR : Rd w w.heap.size 5 A k (arcCell l)) :
    Calls Try.prog 43 #[.agg #[.int .i64 n0, .slice A k c, .slice AF nf cf]] w fun e w' => e = .returned (.tuple #[.agg #[.int .i64 0, .slice none 0 0, .slice none 0 0], .agg #[.int .i64 17, .int .i64 (-1)]]) ∧ Below w.heap.size w w' := by
  have hls : (srtA l).length = k := by rw [(srtA_perm l).length_eq, hl]
  have hs : compact (sameA false) (srtA l) = srtA l := by
    have e : sameA false = eqA := by funext a b; unfold sameA; simp
    rw [e]; exact compact_all ((srtA_perm l).nodup_iff.2 hnd)
  have HS := hide (fun W (h : Rd W W.heap.size 5 A k (arcCell l)) => sorted_any A k c false l W W.heap.size (Nat.le_refl _) hl (by omega) h)
  rw [hs, hls] at HS
  have HRD := hide hR
  have t1 : decide (n0 > 400) = true := decide_eq_true (by omega)
  have t1' : decide ((400 : Int) < n0) = true := decide_eq_true (by omega)
  clear hl hls hs hnd hR
  go_enter Try.func43, Try.ntmps43
  go_wp2_with fail
  refine (HS.out _ ((HRD.out.below (show Below w.heap.size w _ by go_grown) (Nat.le_refl _)).mono (by simp <;> omega))).mono ?_
  rintro e w1 ⟨A', c', rfl, hown1, hb1⟩
  have bM1 : Blk w1 w.heap.size 25 #[.int .i64 n0, .slice A k c, .slice AF nf cf] := (((Blk.new w _ _).alloc _).alloc _).below hb1 (by simp <;> omega)
  have bR1 : Blk w1 (w.heap.size + 1) 25 #[.int .i64 0, .slice none 0 0, .slice none 0 0] := ((Blk.at_ (by simp)).alloc _).below hb1 (by simp <;> omega)
  have bF1 : Blk w1 (w.heap.size + 1 + 1) 28 #[.int .i64 0, .int .i64 0] := (Blk.at_ (by simp)).below hb1 (by simp)
  have HB1 := hide (Below.trans (show Below w.heap.size w _ by go_grown) (hb1.mono (by simp <;> omega)))
  have HO1 := hide (own_monoB hown1 (show w.heap.size + 1 + 1 + 1 ≤ _ by simp))
  have m0 := bM1.cell 0
  have m1 := bM1.cell 1
  have m2 := bM1.cell 2
  have mf1 := bM1.frozen 1
  simp at m0 m1 m2
  have lM := bM1.lt
  have lR := bR1.lt
  have lF := bF1.lt
  clear hown1 hb1 HS HRD
  go_wp2_with fail
  refine (rfault_any _ _ _).mono ?_
  rintro e w2 ⟨rfl, hb2⟩
  have HB2 := hide ((HB1.out.setCell (show w.heap.size ≤ (⟨w.heap.size, 1, none⟩ : Addr).block from Nat.le_refl _) (.slice A' k c')).trans (hb2.mono (by simp [World.setCell]; omega)))
  replace bR1 := (bR1.far (p := ⟨w.heap.size, 1, none⟩) (by dsimp only; omega) (.slice A' k c')).below hb2 (by simpa [World.setCell] using lR)
  replace bF1 := (bF1.far (p := ⟨w.heap.size, 1, none⟩) (by dsimp only; omega) (.slice A' k c')).below hb2 (by simpa [World.setCell] using lF)
  replace bM1 := (bM1.set_ 1 (.slice A' k c')).below hb2 (by simpa [World.setCell] using lM)
  replace lM := bM1.lt
  replace lR := bR1.lt
  replace lF := bF1.lt
  clear m0 m1 m2 mf1 hb2
  have r0 := bR1.cell 0
  have r1 := bR1.cell 1
  have r2 := bR1.cell 2
  have s0 := bF1.cell 0
  have s1 := bF1.cell 1
  have rf0 := bR1.frozen 0
  have rf1 := bR1.frozen 1
  have rf2 := bR1.frozen 2
  have sf0 := bF1.frozen 0
  have sf1 := bF1.frozen 1
  simp at r0 r1 r2 s0 s1
  go_wp2
  refine bodyPost_ret (v := .tuple #[.agg #[.int .i64 0, .slice none 0 0, .slice none 0 0], .agg #[.int .i64 17, .int .i64 (-1)]]) (by simp [results, Try.results43, go_sem, lR, lF, lM, r0, r1, r2, s0, s1, rf0, rf1, rf2, sf0, sf1]) rfl ⟨rfl, ?_⟩
  refine Below.setCell (Below.setCell (Below.setCell (Below.setCell (Below.setCell HB2.out ?_ _) ?_ _) ?_ _) ?_ _) ?_ _ <;> (dsimp only; omega)
set_option maxRecDepth 100000 in
set_option maxHeartbeats 4000000 in
theorem rfin_big2 (n0 : Int) (l : List Arc) (k c : Nat) (A AF : Option Addr) (nf cf : Nat) (w : World) (hl : l.length = k) (hnd : l.Nodup) (hk : 2000 < k ∧ k ≤ 6402) (h0 : n0 ≤ 400) (hR : Rd w w.heap.size 5 A k (arcCell l)) :
    Calls Try.prog 43 #[.agg #[.int .i64 n0, .slice A k c, .slice AF nf cf]] w fun e w' => e = .returned (.tuple #[.agg #[.int .i64 0, .slice none 0 0, .slice none 0 0], .agg #[.int .i64 17, .int .i64 (-1)]]) ∧ Below w.heap.size w w' := by
  have hls : (srtA l).length = k := by rw [(srtA_perm l).length_eq, hl]
  have hs : compact (sameA false) (srtA l) = srtA l := by
    have e : sameA false = eqA := by funext a b; unfold sameA; simp
    rw [e]; exact compact_all ((srtA_perm l).nodup_iff.2 hnd)
  have HS := hide (fun W (h : Rd W W.heap.size 5 A k (arcCell l)) => sorted_any A k c false l W W.heap.size (Nat.le_refl _) hl (by omega) h)
  rw [hs, hls] at HS
  have HRD := hide hR
  have t1 : decide (n0 > 400) = false := decide_eq_false (by omega)
  have t1' : decide ((400 : Int) < n0) = false := decide_eq_false (by omega)
  have t2 : decide ((k : Int) > 2000) = true := decide_eq_true (by omega)
  have t2' : decide ((2000 : Int) < (k : Int)) = true := decide_eq_true (by omega)
  clear hl hls hs hnd hR
  go_enter Try.func43, Try.ntmps43
  go_wp2_with fail
  refine (HS.out _ ((HRD.out.below (show Below w.heap.size w _ by go_grown) (Nat.le_refl _)).mono (by simp <;> omega))).mono ?_
  rintro e w1 ⟨A', c', rfl, hown1, hb1⟩
  have bM1 : Blk w1 w.heap.size 25 #[.int .i64 n0, .slice A k c, .slice AF nf cf] := (((Blk.new w _ _).alloc _).alloc _).below hb1 (by simp <;> omega)
  have bR1 : Blk w1 (w.heap.size + 1) 25 #[.int .i64 0, .slice none 0 0, .slice none 0 0] := ((Blk.at_ (by simp)).alloc _).below hb1 (by simp <;> omega)
  have bF1 : Blk w1 (w.heap.size + 1 + 1) 28 #[.int .i64 0, .int .i64 0] := (Blk.at_ (by simp)).below hb1 (by simp)
  have HB1 := hide (Below.trans (show Below w.heap.size w _ by go_grown) (hb1.mono (by simp <;> omega)))
  have HO1 := hide (own_monoB hown1 (show w.heap.size + 1 + 1 + 1 ≤ _ by simp))
  have m0 := bM1.cell 0
  have m1 := bM1.cell 1
  have m2 := bM1.cell 2
  have mf1 := bM1.frozen 1
  simp at m0 m1 m2
  have lM := bM1.lt
  have lR := bR1.lt
  have lF := bF1.lt
  clear hown1 hb1 HS HRD
  go_wp2_with fail
  refine (rfault_any _ _ _).mono ?_
  rintro e w2 ⟨rfl, hb2⟩
  have HB2 := hide ((HB1.out.setCell (show w.heap.size ≤ (⟨w.heap.size, 1, none⟩ : Addr).block from Nat.le_refl _) (.slice A' k c')).trans (hb2.mono (by simp [World.setCell]; omega)))
  replace bR1 := (bR1.far (p := ⟨w.heap.size, 1, none⟩) (by dsimp only; omega) (.slice A' k c')).below hb2 (by simpa [World.setCell] using lR)
  replace bF1 := (bF1.far (p := ⟨w.heap.size, 1, none⟩) (by dsimp only; omega) (.slice A' k c')).below hb2 (by simpa [World.setCell] using lF)
  replace bM1 := (bM1.set_ 1 (.slice A' k c')).below hb2 (by simpa [World.setCell] using lM)
  replace lM := bM1.lt
  replace lR := bR1.lt
  replace lF := bF1.lt
  clear m0 m1 m2 mf1 hb2
  have r0 := bR1.cell 0
  have r1 := bR1.cell 1
  have r2 := bR1.cell 2
  have s0 := bF1.cell 0
  have s1 := bF1.cell 1
  have rf0 := bR1.frozen 0
  have rf1 := bR1.frozen 1
  have rf2 := bR1.frozen 2
  have sf0 := bF1.frozen 0
  have sf1 := bF1.frozen 1
  simp at r0 r1 r2 s0 s1
  go_wp2
  refine bodyPost_ret (v := .tuple #[.agg #[.int .i64 0, .slice none 0 0, .slice none 0 0], .agg #[.int .i64 17, .int .i64 (-1)]]) (by simp [results, Try.results43, go_sem, lR, lF, lM, r0, r1, r2, s0, s1, rf0, rf1, rf2, sf0, sf1]) rfl ⟨rfl, ?_⟩
  refine Below.setCell (Below.setCell (Below.setCell (Below.setCell (Below.setCell HB2.out ?_ _) ?_ _) ?_ _) ?_ _) ?_ _ <;> (dsimp only; omega)
/-- The reference's finish, at any arcs that differ: what it returns is a machine in new blocks, if its finals are. -/
theorem rfin_any (n0 : Int) (l : List Arc) (k c : Nat) (A AF : Option Addr) (nf cf : Nat) (w : World) (hl : l.length = k) (hnd : l.Nodup) (hk : k ≤ 6402) (h0 : 0 ≤ n0) (F : List Fnl) (base : Nat) (hbase : base ≤ w.heap.size) (hF : w.ownsRow base 51 2 (.slice AF nf cf) nf (finRow F)) (hlF : F.length = nf) (hnf : nf ≤ big) (hR : Rd w w.heap.size 5 A k (arcCell l)) :
    Calls Try.prog 43 #[.agg #[.int .i64 n0, .slice A k c, .slice AF nf cf]] w fun e w' => ∃ v', e = .returned (.tuple #[v', .agg #[.int .i64 (finF n0 k).1, .int .i64 (finF n0 k).2]]) ∧ MachNew base w' v' (finM n0 l F) ∧ Below w.heap.size w w' := by
  by_cases hn : 400 < n0
  · have e1 : finF n0 k = (17, -1) := by unfold finF; rw [if_pos (.inl hn)]
    have e2 : finM n0 l F = emptyM := by unfold finM; rw [if_pos (.inl hn)]
    rw [e1, e2]
    exact (rfin_big1 n0 l k c A AF nf cf w hl hnd hk hn hR).mono fun e w' ⟨he, hb⟩ => ⟨_, he, MachNew.empty _ _, hb⟩
  · by_cases hq : 2000 < k
    · have e1 : finF n0 k = (17, -1) := by unfold finF; rw [if_pos (.inr hq)]
      have e2 : finM n0 l F = emptyM := by unfold finM; rw [if_pos (.inr (by omega))]
      rw [e1, e2]
      exact (rfin_big2 n0 l k c A AF nf cf w hl hnd ⟨hq, hk⟩ (by omega) hR).mono fun e w' ⟨he, hb⟩ => ⟨_, he, MachNew.empty _ _, hb⟩
    · have e1 : finF n0 k = (0, 0) := by unfold finF; rw [if_neg (by omega)]
      have e2 : finM n0 l F = ⟨n0, srtA l, F⟩ := by unfold finM; rw [if_neg (by omega)]
      rw [e1, e2]
      refine (rfin_ok n0 l k c A AF nf cf w hl hnd (by omega) ⟨h0, by omega⟩ hR).mono ?_
      rintro e w' ⟨A', c', he, hown, hb⟩
      refine ⟨_, he, ?_, hb⟩
      obtain ⟨_, _, ev, hkc, _⟩ := own_value hown
      injection ev with _ _ ev
      obtain ⟨_, _, fv, hfc, _⟩ := own_value hF
      injection fv with _ _ fv
      have hls : (srtA l).length = k := by rw [(srtA_perm l).length_eq, hl]
      have h := MachNew.of_own (m := ⟨n0, srtA l, F⟩) (lo := base) (A := A') (ca := c') (AF := AF) (cf := cf) (w := w') (base := w.heap.size) (b2 := base) (eA := 45) (eF := 51) (by show w'.ownsRow w.heap.size 45 5 (.slice A' (srtA l).length c') (srtA l).length (arcRow (srtA l)); rw [hls]; exact hown) (by show w'.ownsRow base 51 2 (.slice AF F.length cf) F.length (finRow F); rw [hlF]; exact own_belowB hF hb) hbase (Nat.le_refl _) (by show (srtA l).length ≤ c'; rw [hls, ev]; exact hkc) (by show F.length ≤ cf; rw [hlF, fv]; exact hfc) (by show (srtA l).length ≤ big; rw [hls]; unfold big; omega) (by show F.length ≤ big; rw [hlF]; exact hnf)
      have e3 : (Value.slice A' (srtA l).length c') = .slice A' k c' := by rw [hls]
      have e4 : (Value.slice AF F.length cf) = .slice AF nf cf := by rw [hlF]
      have h2 : MachNew base w' (.agg #[.int .i64 n0, .slice A' (srtA l).length c', .slice AF F.length cf]) ⟨n0, srtA l, F⟩ := h
      rw [e3, e4] at h2
      exact h2
end Go.Proofs.Ytmgpcnkmmgkjgaa
