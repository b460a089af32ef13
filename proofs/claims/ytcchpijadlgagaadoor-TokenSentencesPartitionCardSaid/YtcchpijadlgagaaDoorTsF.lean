/- Where a sentence ends: the reference's Behind, walked. -/
import Derived.Test.YtcchpijadlgagaaDoorTsE
namespace Go.Proofs.YtcchpijadlgagaaDoor
open Go.RowKit Gm
set_option linter.unusedSimpArgs false
set_option linter.unusedVariables false
theorem ne_int (a b : Int) : (a != b) = decide (a ≠ b) := by
  by_cases h : a = b <;> simp [h]
set_option maxRecDepth 100000 in
set_option maxHeartbeats 8000000 in
theorem behind_any (v : Value) (L : List Tok) (w : World) (B : Nat) (hB : B ≤ w.heap.size) (h : ToksAt w B v L) (hok : okToks L) (i : Nat) (hi : i < L.length) :
    Calls Tryd.prog 32 #[v, .int .i64 (i : Int)] w fun e w' => e = .returned (.bool (endsB L i)) ∧ Below w.heap.size w w' := by
  obtain ⟨A, n, c, rfl, HN, hnc, hnb, hrd⟩ := h
  unfold big at hnb
  have hin : i < n := by rw [← HN.out]; exact hi
  have HOK := hide hok
  by_cases hl : i + 1 = n
  · have he : endsB L i = true := by unfold endsB; rw [if_pos (by rw [HN.out]; exact hl)]
    rw [he]
    have hc1 : ((i : Int) + 1 == (n : Int)) = true := by simp; omega
    clear hrd he hok
    go_enter Tryd.func32, Tryd.ntmps32
    go_wp2
    go_ret
    exact ⟨rfl, by go_grown⟩
  · have he : endsB L i = endT (L.getD (i - 1) dT) (L.getD i dT) (L.getD (i + 1) dT) i := by unfold endsB; rw [if_neg (by rw [HN.out]; exact hl)]
    have hc1 : ((i : Int) + 1 == (n : Int)) = false := by simp; omega
    obtain ⟨b, off, t, hA, hbB, c0, c1, c2, c3, HTK⟩ := tok_at hrd hin
    obtain ⟨b', off', t2, hA', hbB', e0, e1, e2, e3, HTK2⟩ := tok_at hrd (show i + 1 < n by omega)
    subst hA
    simp only [Option.some.injEq, Addr.mk.injEq, and_true] at hA'
    obtain ⟨rfl, rfl⟩ := hA'
    rw [HTK.out, HTK2.out] at he
    rw [he]
    obtain ⟨ps2, hp2, hp2S, hp20, hp2e, hp2z⟩ := okTok_at hok (show i + 1 < L.length by rw [HN.out]; omega)
    rw [HTK2.out] at hp2 hp2e hp2z
    have g1 : scal (ps2.getD 0 0) = true := hp2S _ (getI_mem hp20)
    have hbz : b < w.heap.size := by omega
    obtain ⟨K, hK⟩ : ∃ x, x = t.k := ⟨_, rfl⟩
    obtain ⟨S, hS⟩ : ∃ x, x = t.s := ⟨_, rfl⟩
    obtain ⟨E, hE⟩ : ∃ x, x = t.e := ⟨_, rfl⟩
    obtain ⟨X, hX⟩ : ∃ x, x = (⟨t.t.toArray⟩ : ByteArray) := ⟨_, rfl⟩
    obtain ⟨K2, hK2⟩ : ∃ x, x = t2.k := ⟨_, rfl⟩
    obtain ⟨S2, hS2⟩ : ∃ x, x = t2.s := ⟨_, rfl⟩
    obtain ⟨E2, hE2⟩ : ∃ x, x = t2.e := ⟨_, rfl⟩
    obtain ⟨X2, hX2⟩ : ∃ x, x = (⟨t2.t.toArray⟩ : ByteArray) := ⟨_, rfl⟩
    obtain ⟨P0, hP0⟩ : ∃ x, x = ps2.getD 0 0 := ⟨_, rfl⟩
    obtain ⟨P1, hP1⟩ : ∃ x, x = lowP P0 := ⟨_, rfl⟩
    rw [← hK] at c0
    rw [← hS] at c1
    rw [← hE] at c2
    rw [← hX] at c3
    rw [← hK2] at e0
    rw [← hS2] at e1
    rw [← hE2] at e2
    rw [← hX2] at e3
    have g2 : capB t2 = decide (P1 ≠ P0) := by unfold capB; rw [hp2, hP1, hP0]
    have hX2d : X2.data.toList = t2.t := by rw [hX2]
    have hX2z : X2.size ≤ maxLen := by
      have : X2.data.toList.length = X2.size := by simp
      rw [hX2d] at this
      unfold maxLen; omega
    have hD2 := fun W => rpoints_ints X2 W hX2z
    rw [hX2d, hp2] at hD2
    have HD2 := hide hD2
    have HP2 := hide (show 1 ≤ ps2.length from hp20)
    have HP0 := hide hP0
    have hsc := scal_iff.1 g1
    rw [← hP0] at hsc
    have hLO : ∀ W, Calls Tryd.prog 44 #[.int .i64 P0] W fun e w' => e = .returned (.int .i64 P1) ∧ w' = W := fun W => (rlower_any P0 W (by omega) (by omega)).mono fun e w' ⟨h1, h2⟩ => ⟨by rw [hP1]; exact h1, h2.symm⟩
    have HLOW := hide hLO
    obtain ⟨R, hR⟩ : ∃ R, R = endT (L.getD (i - 1) dT) t t2 i := ⟨_, rfl⟩
    rw [← hR]
    have hX46 : (t.t = [46]) = (X = ⟨#[46]⟩) := by
      rw [hX]
      exact propext (arr_eq (k := [46])).symm
    unfold endT at hR
    rw [← hK, ← hK2, g2] at hR
    simp only [hX46] at hR
    have HR := hide hR
    have HS := hide hS
    have j0 : (0 : Int) ≤ (i : Int) := by omega
    have j1 : (i : Int) < (n : Int) := by omega
    have j2 : (0 : Int) ≤ (i : Int) + 1 := by omega
    have j3 : (i : Int) + 1 < (n : Int) := by omega
    have hi1 : ((i : Int) + 1).toNat = i + 1 := by omega
    clear hp2 hp2S hp20 hp2e hp2z g1 g2 hK hS hE hX hK2 hS2 hE2 hX2 hX2d hX2z hD2 hR hX46 hok he HTK HTK2 hP0 hP1 hsc hLO
    have hb00 : Below w.heap.size w w := Below.refl _ _
    by_cases hk3 : K = 3
    · subst hk3
      by_cases h3 : K2 = 3
      · subst h3
        have HV := hide (show R = false by rw [HR.out, if_pos (by simp)])
        clear HR
        go_enter Tryd.func32, Tryd.ntmps32
        go_wp2
        go_ret
        exact ⟨ret_bool HV.out.symm, by go_grown⟩
      · have k23 : (K2 == 3) = false := by simp [h3]
        by_cases hx : X = ⟨#[46]⟩
        · have hs : (X.toList == [46]) = true := dot_yes hx
          have HX := hide hx
          clear hx
          by_cases hi0 : i = 0
          · subst hi0
            simp only [Nat.zero_mul, Nat.add_zero, Nat.zero_add, Nat.one_mul] at c0 c1 c2 c3 e0 e1 e2 e3
            have HND := hide (show ¬ (X = ⟨#[46]⟩ ∧ 0 < 0 ∧ dotB (L.getD (0 - 1) dT) t = true) from fun h => Nat.lt_irrefl 0 h.2.1)
            go_enter Tryd.func32, Tryd.ntmps32
            go_wp2
            go_quiet (fail)
            by_cases h1 : K2 = 1
            · subst h1
              have hb0W := (below_drewN hb00 nq)
              have hz0W := hb0W.size
              have HV := hide (show R = decide (P1 ≠ P0) by rw [HR.out, if_neg (by simp), if_neg HND.out, if_pos rfl])
              clear HR HND
              go_wp2_with fail
              refine (HD2.out _).mono ?_
              rintro e w4 ⟨v4, rfl, hv4, hb4⟩
              have hbw4 : Below w.heap.size w w4 := Below.trans (show Below w.heap.size w _ by first | exact hb0W | go_grown) (hb4.mono (by first | omega | (simp; omega)))
              have hz4 := hbw4.size
              obtain ⟨A4, n4, c4, rfl, HM4, hmc4, hmb4, hrd4⟩ := hv4
              have h14 : 1 ≤ n4 := by rw [← HM4.out]; exact HP2.out
              obtain ⟨b4, o4, rfl, hbb4, d4⟩ := hrd4.at1 (show 0 < n4 by omega)
              have d4 : w4.cell? ⟨b4, o4, none⟩ = some (.int .i64 P0) := by rw [HP0.out]; simpa [intCell] using d4
              have j4 : (0 : Int) < (n4 : Int) := by omega
              clear hb4 hmb4 hrd4 HD2 HM4
              go_wp2
              go_quiet (first | (go_at_call 44; exact Calls.quiet_of_same (HLOW.out _)) | fail)
              go_wp2
              go_ret
              exact ⟨ret_bool ((ne_int _ _).trans HV.out.symm), by first | exact below_drewN (hbw4.alloc hz4 _) _ | go_grown⟩
            · have k21 : (K2 == 1) = false := by simp [h1]
              have hb0W := (below_drewN hb00 nq)
              have hz0W := hb0W.size
              have HV := hide (show R = true by rw [HR.out, if_neg (by simp [h3]), if_neg HND.out, if_neg h1])
              clear HR HND h1
              go_wp2
              go_ret
              exact ⟨ret_bool HV.out.symm, by first | exact hb0W | go_grown⟩
          · obtain ⟨j, rfl⟩ : ∃ j, i = j + 1 := ⟨i - 1, by omega⟩
            have hjl : j < L.length := by rw [HN.out]; omega
            obtain ⟨b', off', tb, hA', hbb', r0, r1, r2, r3, HTB⟩ := tok_at hrd (show j < n by omega)
            simp only [Option.some.injEq, Addr.mk.injEq, and_true] at hA'
            obtain ⟨rfl, rfl⟩ := hA'
            obtain ⟨ps1, hp1, _, _, hp1e, hp1z⟩ := okTok_at HOK.out hjl
            rw [HTB.out] at hp1 hp1e hp1z
            obtain ⟨X1, hX1⟩ : ∃ x, x = (⟨tb.t.toArray⟩ : ByteArray) := ⟨_, rfl⟩
            have hX1d : X1.data.toList = tb.t := by rw [hX1]
            have hX1z : X1.size ≤ maxLen := by
              have : X1.data.toList.length = X1.size := by simp
              rw [hX1d] at this
              unfold maxLen; omega
            have hD1 := fun W => rpoints_ints X1 W hX1z
            rw [hX1d, hp1] at hD1
            have HD1 := hide hD1
            obtain ⟨K1, hK1⟩ : ∃ x, x = tb.k := ⟨_, rfl⟩
            obtain ⟨S1, hS1⟩ : ∃ x, x = tb.s := ⟨_, rfl⟩
            obtain ⟨E1, hE1⟩ : ∃ x, x = tb.e := ⟨_, rfl⟩
            rw [← hK1] at r0
            rw [← hS1] at r1
            rw [← hE1] at r2
            rw [← hX1] at r3
            have hdot : dotB (L.getD (j + 1 - 1) dT) t = (decide (K1 = 1) && (decide (E1 = S) && decide (ps1.length = 1))) := by
              rw [show j + 1 - 1 = j by omega, HTB.out]
              unfold dotB
              rw [hp1, ← hK1, ← hE1, ← HS.out]
            have HDOT := hide hdot
            have m0 : (0 : Int) ≤ ((j + 1 : Nat) : Int) - 1 := by omega
            have m1 : ((j + 1 : Nat) : Int) - 1 < (n : Int) := by omega
            have m2 : (((j + 1 : Nat) : Int) - 1).toNat = j := by omega
            have m3 : ((j + 1 : Nat) : Int) > 0 := by omega
            clear hp1 hp1e hp1z hX1d hX1z hX1 hD1 hK1 hS1 hE1 HTB hdot hjl hi0
            by_cases hk1 : K1 = 1
            · subst hk1
              by_cases he1 : E1 = S
              · subst he1
                go_enter Tryd.func32, Tryd.ntmps32
                go_wp2
                go_quiet (fail)
                go_wp2_with fail
                refine (HD1.out _).mono ?_
                rintro e w3 ⟨v3, rfl, hv3, hb3⟩
                have hbw3 : Below w.heap.size w w3 := Below.trans (show Below w.heap.size w _ by first | exact below_drewN (Below.refl _ _) _ | go_grown) (hb3.mono (by first | simp | omega))
                have hz3 := hbw3.size
                have e0 := keep_cell hbw3 e0 hbz
                have e3 := keep_cell hbw3 e3 hbz
                have hbz : b < w3.heap.size := by omega
                obtain ⟨A3, n3, c3', rfl, HM3, hmc3, hmb3, hrd3⟩ := hv3
                have HDOT := hide (show dotB (L.getD (j + 1 - 1) dT) t = (decide ((1 : Int) = 1) && (decide (E1 = E1) && decide (n3 = 1))) by rw [HDOT.out, HM3.out]; simp)
                clear hb3 hmb3 hrd3 HD1 r0 r1 r2 r3 HM3 c0 c1 c2 c3 e1 e2
                by_cases hn1 : n3 = 1
                · subst hn1
                  have HV := hide (show R = false by rw [HR.out, if_neg (by simp [h3]), if_pos ⟨HX.out, by omega, by rw [HDOT.out]; simp⟩])
                  clear HR HDOT
                  go_wp2
                  go_ret
                  exact ⟨ret_bool HV.out.symm, by go_grown⟩
                · have hn1b : ((n3 : Int) == 1) = false := by simp; omega
                  have HND := hide (show ¬ (X = ⟨#[46]⟩ ∧ 0 < j + 1 ∧ dotB (L.getD (j + 1 - 1) dT) t = true) by rw [HDOT.out]; simp [hn1])
                  clear hn1 HDOT
                  by_cases h1 : K2 = 1
                  · subst h1
                    have hb0W := hbw3
                    have hz0W := hb0W.size
                    have HV := hide (show R = decide (P1 ≠ P0) by rw [HR.out, if_neg (by simp), if_neg HND.out, if_pos rfl])
                    clear HR HND
                    go_wp2_with fail
                    refine (HD2.out _).mono ?_
                    rintro e w4 ⟨v4, rfl, hv4, hb4⟩
                    have hbw4 : Below w.heap.size w w4 := Below.trans (show Below w.heap.size w _ by first | exact hb0W | go_grown) (hb4.mono (by first | omega | (simp; omega)))
                    have hz4 := hbw4.size
                    obtain ⟨A4, n4, c4, rfl, HM4, hmc4, hmb4, hrd4⟩ := hv4
                    have h14 : 1 ≤ n4 := by rw [← HM4.out]; exact HP2.out
                    obtain ⟨b4, o4, rfl, hbb4, d4⟩ := hrd4.at1 (show 0 < n4 by omega)
                    have d4 : w4.cell? ⟨b4, o4, none⟩ = some (.int .i64 P0) := by rw [HP0.out]; simpa [intCell] using d4
                    have j4 : (0 : Int) < (n4 : Int) := by omega
                    clear hb4 hmb4 hrd4 HD2 HM4
                    go_wp2
                    go_quiet (first | (go_at_call 44; exact Calls.quiet_of_same (HLOW.out _)) | fail)
                    go_wp2
                    go_ret
                    exact ⟨ret_bool ((ne_int _ _).trans HV.out.symm), by first | exact below_drewN (hbw4.alloc hz4 _) _ | go_grown⟩
                  · have k21 : (K2 == 1) = false := by simp [h1]
                    have hb0W := hbw3
                    have hz0W := hb0W.size
                    have HV := hide (show R = true by rw [HR.out, if_neg (by simp [h3]), if_neg HND.out, if_neg h1])
                    clear HR HND h1
                    go_wp2
                    go_ret
                    exact ⟨ret_bool HV.out.symm, by first | exact hb0W | go_grown⟩
              · have he1b : (E1 == S) = false := by simp [he1]
                have HND := hide (show ¬ (X = ⟨#[46]⟩ ∧ 0 < j + 1 ∧ dotB (L.getD (j + 1 - 1) dT) t = true) by rw [HDOT.out]; simp [he1])
                clear he1 HDOT HD1
                go_enter Tryd.func32, Tryd.ntmps32
                go_wp2
                go_quiet (fail)
                by_cases h1 : K2 = 1
                · subst h1
                  have hb0W := (below_drewN hb00 nq)
                  have hz0W := hb0W.size
                  have HV := hide (show R = decide (P1 ≠ P0) by rw [HR.out, if_neg (by simp), if_neg HND.out, if_pos rfl])
                  clear HR HND
                  go_wp2_with fail
                  refine (HD2.out _).mono ?_
                  rintro e w4 ⟨v4, rfl, hv4, hb4⟩
                  have hbw4 : Below w.heap.size w w4 := Below.trans (show Below w.heap.size w _ by first | exact hb0W | go_grown) (hb4.mono (by first | omega | (simp; omega)))
                  have hz4 := hbw4.size
                  obtain ⟨A4, n4, c4, rfl, HM4, hmc4, hmb4, hrd4⟩ := hv4
                  have h14 : 1 ≤ n4 := by rw [← HM4.out]; exact HP2.out
                  obtain ⟨b4, o4, rfl, hbb4, d4⟩ := hrd4.at1 (show 0 < n4 by omega)
                  have d4 : w4.cell? ⟨b4, o4, none⟩ = some (.int .i64 P0) := by rw [HP0.out]; simpa [intCell] using d4
                  have j4 : (0 : Int) < (n4 : Int) := by omega
                  clear hb4 hmb4 hrd4 HD2 HM4
                  go_wp2
                  go_quiet (first | (go_at_call 44; exact Calls.quiet_of_same (HLOW.out _)) | fail)
                  go_wp2
                  go_ret
                  exact ⟨ret_bool ((ne_int _ _).trans HV.out.symm), by first | exact below_drewN (hbw4.alloc hz4 _) _ | go_grown⟩
                · have k21 : (K2 == 1) = false := by simp [h1]
                  have hb0W := (below_drewN hb00 nq)
                  have hz0W := hb0W.size
                  have HV := hide (show R = true by rw [HR.out, if_neg (by simp [h3]), if_neg HND.out, if_neg h1])
                  clear HR HND h1
                  go_wp2
                  go_ret
                  exact ⟨ret_bool HV.out.symm, by first | exact hb0W | go_grown⟩
            · have hk1b : (K1 == 1) = false := by simp [hk1]
              have HND := hide (show ¬ (X = ⟨#[46]⟩ ∧ 0 < j + 1 ∧ dotB (L.getD (j + 1 - 1) dT) t = true) by rw [HDOT.out]; simp [hk1])
              clear hk1 HDOT HD1
              go_enter Tryd.func32, Tryd.ntmps32
              go_wp2
              go_quiet (fail)
              by_cases h1 : K2 = 1
              · subst h1
                have hb0W := (below_drewN hb00 nq)
                have hz0W := hb0W.size
                have HV := hide (show R = decide (P1 ≠ P0) by rw [HR.out, if_neg (by simp), if_neg HND.out, if_pos rfl])
                clear HR HND
                go_wp2_with fail
                refine (HD2.out _).mono ?_
                rintro e w4 ⟨v4, rfl, hv4, hb4⟩
                have hbw4 : Below w.heap.size w w4 := Below.trans (show Below w.heap.size w _ by first | exact hb0W | go_grown) (hb4.mono (by first | omega | (simp; omega)))
                have hz4 := hbw4.size
                obtain ⟨A4, n4, c4, rfl, HM4, hmc4, hmb4, hrd4⟩ := hv4
                have h14 : 1 ≤ n4 := by rw [← HM4.out]; exact HP2.out
                obtain ⟨b4, o4, rfl, hbb4, d4⟩ := hrd4.at1 (show 0 < n4 by omega)
                have d4 : w4.cell? ⟨b4, o4, none⟩ = some (.int .i64 P0) := by rw [HP0.out]; simpa [intCell] using d4
                have j4 : (0 : Int) < (n4 : Int) := by omega
                clear hb4 hmb4 hrd4 HD2 HM4
                go_wp2
                go_quiet (first | (go_at_call 44; exact Calls.quiet_of_same (HLOW.out _)) | fail)
                go_wp2
                go_ret
                exact ⟨ret_bool ((ne_int _ _).trans HV.out.symm), by first | exact below_drewN (hbw4.alloc hz4 _) _ | go_grown⟩
              · have k21 : (K2 == 1) = false := by simp [h1]
                have hb0W := (below_drewN hb00 nq)
                have hz0W := hb0W.size
                have HV := hide (show R = true by rw [HR.out, if_neg (by simp [h3]), if_neg HND.out, if_neg h1])
                clear HR HND h1
                go_wp2
                go_ret
                exact ⟨ret_bool HV.out.symm, by first | exact hb0W | go_grown⟩
        · have hs : (X.toList == [46]) = false := dot_no hx
          have HND := hide (show ¬ (X = ⟨#[46]⟩ ∧ 0 < i ∧ dotB (L.getD (i - 1) dT) t = true) by simp [hx])
          clear hx
          go_enter Tryd.func32, Tryd.ntmps32
          go_wp2
          go_quiet (fail)
          by_cases h1 : K2 = 1
          · subst h1
            have hb0W := (below_drewN hb00 nq)
            have hz0W := hb0W.size
            have HV := hide (show R = decide (P1 ≠ P0) by rw [HR.out, if_neg (by simp), if_neg HND.out, if_pos rfl])
            clear HR HND
            go_wp2_with fail
            refine (HD2.out _).mono ?_
            rintro e w4 ⟨v4, rfl, hv4, hb4⟩
            have hbw4 : Below w.heap.size w w4 := Below.trans (show Below w.heap.size w _ by first | exact hb0W | go_grown) (hb4.mono (by first | omega | (simp; omega)))
            have hz4 := hbw4.size
            obtain ⟨A4, n4, c4, rfl, HM4, hmc4, hmb4, hrd4⟩ := hv4
            have h14 : 1 ≤ n4 := by rw [← HM4.out]; exact HP2.out
            obtain ⟨b4, o4, rfl, hbb4, d4⟩ := hrd4.at1 (show 0 < n4 by omega)
            have d4 : w4.cell? ⟨b4, o4, none⟩ = some (.int .i64 P0) := by rw [HP0.out]; simpa [intCell] using d4
            have j4 : (0 : Int) < (n4 : Int) := by omega
            clear hb4 hmb4 hrd4 HD2 HM4
            go_wp2
            go_quiet (first | (go_at_call 44; exact Calls.quiet_of_same (HLOW.out _)) | fail)
            go_wp2
            go_ret
            exact ⟨ret_bool ((ne_int _ _).trans HV.out.symm), by first | exact below_drewN (hbw4.alloc hz4 _) _ | go_grown⟩
          · have k21 : (K2 == 1) = false := by simp [h1]
            have hb0W := (below_drewN hb00 nq)
            have hz0W := hb0W.size
            have HV := hide (show R = true by rw [HR.out, if_neg (by simp [h3]), if_neg HND.out, if_neg h1])
            clear HR HND h1
            go_wp2
            go_ret
            exact ⟨ret_bool HV.out.symm, by first | exact hb0W | go_grown⟩
    · have k3 : (K != 3) = true := by simp [hk3]
      have HV := hide (show R = false by rw [HR.out, if_pos (.inl hk3)])
      clear HR hk3
      go_enter Tryd.func32, Tryd.ntmps32
      go_wp2
      go_ret
      exact ⟨ret_bool HV.out.symm, by go_grown⟩
end Go.Proofs.YtcchpijadlgagaaDoor
