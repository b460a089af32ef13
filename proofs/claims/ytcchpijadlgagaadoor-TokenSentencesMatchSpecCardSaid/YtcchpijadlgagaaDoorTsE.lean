/- Where a sentence ends: token.ends, walked. -/
import Derived.Test.YtcchpijadlgagaaDoorTsP
import Derived.Test.YtcchpijadlgagaaDoorTkY
namespace Go.Proofs.YtcchpijadlgagaaDoor
open Go.RowKit Gm
set_option linter.unusedSimpArgs false
set_option linter.unusedVariables false
theorem run_eqSn (a b : ByteArray) (h : a ≠ b) (W : World) : (binOp .eql 9 (.string a) (.string b)).run Tryd.prog W = .ok (.bool false) W := by
  have h2 : ¬ a.data = b.data := fun e => h (ByteArray.ext e)
  simp [go_sem, Lib.toList_data, h2]
theorem run_neqB (a b : ByteArray) (W : World) : (binOp .neq 9 (.string a) (.string b)).run Tryd.prog W = .ok (.bool (decide (a ≠ b))) W := by
  by_cases h : a = b
  · subst h; rw [run_neqS0]; simp
  · rw [run_neqS a b h]; simp [h]
theorem neq_toList (a b : ByteArray) : (!a.toList == b.toList) = decide (a ≠ b) := by
  rw [Lib.toList_data, Lib.toList_data]
  by_cases h : a = b
  · subst h; simp
  · have h2 : ¬ a.data = b.data := fun e => h (ByteArray.ext e)
    simp [h, h2]
theorem run_eqS1 (a b : ByteArray) (h : a = b) (W : World) : (binOp .eql 9 (.string a) (.string b)).run Tryd.prog W = .ok (.bool true) W := by
  subst h; exact run_eqS0 a W
theorem dot_yes {a : ByteArray} (h : a = ⟨#[46]⟩) : (a.toList == [46]) = true := by subst h; rw [Lib.toList_data]; rfl
theorem dot_no {a : ByteArray} (h : ¬ a = ⟨#[46]⟩) : (a.toList == [46]) = false := by
  rw [Lib.toList_data]
  have h2 : ¬ a.data.toList = [46] := fun e => h (ByteArray.ext (by rw [← Array.toArray_toList (xs := a.data), e]))
  simpa using h2
theorem run_first (b off n c : Nat) (hn : 1 ≤ n) (hc : n ≤ c) (W : World) :
    (Instr.slice 43 (.slice (some ⟨b, off, none⟩) n c) none (some (.int .i64 1)) none).run Tryd.prog W = .ok (.slice (some ⟨b, off, none⟩) 1 c) W := by
  have hne : ¬ c = 0 := by omega
  simp [go_sem, sliced, Addr.add, hne, (by omega : (1 : Int) ≤ c), (by omega : 1 ≤ c)]
theorem okTok_at {L : List Tok} (h : okToks L) {k : Nat} (hk : k < L.length) : ∃ ps, decR (L.getD k dT).t = ((0, 0), ps) ∧ allS ps ∧ 0 < ps.length ∧ (L.getD k dT).t = encL ps ∧ (L.getD k dT).t.length ≤ 4000 :=
  h _ (by simp [List.getD, hk])
theorem arr_eq {l k : List UInt8} : ((⟨l.toArray⟩ : ByteArray) = ⟨k.toArray⟩) ↔ l = k := by
  constructor
  · intro h
    have := congrArg (fun b => b.data.toList) h
    simpa using this
  · intro h; rw [h]
/-- What folding and encoding the first point of a word gives. -/
theorem word_facts {t : Tok} {ps : List Int} (hd : decR t.t = ((0, 0), ps)) (hS : allS ps) (h0 : 0 < ps.length) : scal (ps.getD 0 0) = true ∧ capB t = decide ((⟨(encL [lowP (ps.getD 0 0)]).toArray⟩ : ByteArray) ≠ ⟨(encL [ps.getD 0 0]).toArray⟩) := by
  have hs : scal (ps.getD 0 0) = true := hS _ (getI_mem h0)
  refine ⟨hs, ?_⟩
  unfold capB
  rw [hd]
  simp only
  by_cases h : lowP (ps.getD 0 0) = ps.getD 0 0
  · rw [h]; simp
  · have h2 : ¬ encL [lowP (ps.getD 0 0)] = encL [ps.getD 0 0] := fun e => h ((cap_iff hs).1 e)
    have h3 : ¬ (⟨(encL [lowP (ps.getD 0 0)]).toArray⟩ : ByteArray) = ⟨(encL [ps.getD 0 0]).toArray⟩ := fun e => h2 (arr_eq.1 e)
    rw [decide_eq_true h, decide_eq_true h3]
set_option maxRecDepth 100000 in
set_option maxHeartbeats 8000000 in
theorem ends_any (v : Value) (L : List Tok) (w : World) (B : Nat) (hT : Tabs w) (hB : B ≤ w.heap.size) (h : ToksAt w B v L) (hok : okToks L) (i : Nat) (hi : i < L.length) :
    Calls Tryd.prog 30 #[v, .int .i64 (i : Int)] w fun e w' => e = .returned (.bool (endsB L i)) ∧ Below w.heap.size w w' := by
  obtain ⟨A, n, c, rfl, HN, hnc, hnb, hrd⟩ := h
  unfold big at hnb
  have hin : i < n := by rw [← HN.out]; exact hi
  have HT := hide hT
  have HOK := hide hok
  clear hT
  by_cases hl : i + 1 = n
  · have he : endsB L i = true := by unfold endsB; rw [if_pos (by rw [HN.out]; exact hl)]
    rw [he]
    have hc1 : ((i : Int) == (n : Int) - 1) = true := by simp; omega
    clear hrd he hok
    go_enter Tryd.func30, Tryd.ntmps30
    go_wp2
    go_ret
    exact ⟨rfl, by go_grown⟩
  · have he : endsB L i = endT (L.getD (i - 1) dT) (L.getD i dT) (L.getD (i + 1) dT) i := by unfold endsB; rw [if_neg (by rw [HN.out]; exact hl)]
    have hc1 : ((i : Int) == (n : Int) - 1) = false := by simp; omega
    obtain ⟨b, off, t, hA, hbB, c0, c1, c2, c3, HTK⟩ := tok_at hrd hin
    obtain ⟨b', off', t2, hA', hbB', e0, e1, e2, e3, HTK2⟩ := tok_at hrd (show i + 1 < n by omega)
    subst hA
    simp only [Option.some.injEq, Addr.mk.injEq, and_true] at hA'
    obtain ⟨rfl, rfl⟩ := hA'
    rw [HTK.out, HTK2.out] at he
    rw [he]
    obtain ⟨ps2, hp2, hp2S, hp20, hp2e, hp2z⟩ := okTok_at hok (show i + 1 < L.length by rw [HN.out]; omega)
    rw [HTK2.out] at hp2 hp2e hp2z
    obtain ⟨g1, g2⟩ := word_facts hp2 hp2S hp20
    have hbz : b < w.heap.size := by omega
    obtain ⟨K, hK⟩ : ∃ x, x = t.k := ⟨_, rfl⟩
    obtain ⟨S, hS⟩ : ∃ x, x = t.s := ⟨_, rfl⟩
    obtain ⟨E, hE⟩ : ∃ x, x = t.e := ⟨_, rfl⟩
    obtain ⟨X, hX⟩ : ∃ x, x = (⟨t.t.toArray⟩ : ByteArray) := ⟨_, rfl⟩
    obtain ⟨K2, hK2⟩ : ∃ x, x = t2.k := ⟨_, rfl⟩
    obtain ⟨S2, hS2⟩ : ∃ x, x = t2.s := ⟨_, rfl⟩
    obtain ⟨E2, hE2⟩ : ∃ x, x = t2.e := ⟨_, rfl⟩
    obtain ⟨X2, hX2⟩ : ∃ x, x = (⟨t2.t.toArray⟩ : ByteArray) := ⟨_, rfl⟩
    obtain ⟨F1, hF1⟩ : ∃ x, x = (⟨(encL [ps2.getD 0 0]).toArray⟩ : ByteArray) := ⟨_, rfl⟩
    obtain ⟨F2, hF2⟩ : ∃ x, x = (⟨(encL [lowP (ps2.getD 0 0)]).toArray⟩ : ByteArray) := ⟨_, rfl⟩
    rw [← hK] at c0
    rw [← hS] at c1
    rw [← hE] at c2
    rw [← hX] at c3
    rw [← hK2] at e0
    rw [← hS2] at e1
    rw [← hE2] at e2
    rw [← hX2] at e3
    rw [← hF1, ← hF2] at g2
    have hX2d : X2.data.toList = t2.t := by rw [hX2]
    have hX2z : X2.size ≤ maxLen := by
      have : X2.data.toList.length = X2.size := by simp
      rw [hX2d] at this
      unfold maxLen; omega
    have hD2 := fun W (h : Tabs W) => decode_ints X2 W h hX2z
    rw [hX2d, hp2] at hD2
    have HD2 := hide hD2
    have HP2 := hide (show 1 ≤ ps2.length from hp20)
    have hEN := fun v (W : World) B (hB : B ≤ W.heap.size) (h : Ints W B v [ps2.getD 0 0]) => encode_ints v [ps2.getD 0 0] W B hB h
    rw [enc_first g1] at hEN
    simp only [← hF1] at hEN
    have HEN := hide hEN
    have hF1d : F1.data.toList = encL [ps2.getD 0 0] := by rw [hF1]
    have hF1z : F1.size ≤ maxLen := by
      have : F1.data.toList.length = F1.size := by simp
      rw [hF1d] at this
      have h4 := encL_le [ps2.getD 0 0]
      rw [List.length_singleton] at h4
      unfold maxLen; omega
    have hFO := fun W (h : Tabs W) => fold_text_any F1 W h hF1z
    rw [hF1d, fold_first g1] at hFO
    simp only [← hF2] at hFO
    have HFO := hide hFO
    obtain ⟨R, hR⟩ : ∃ R, R = endT (L.getD (i - 1) dT) t t2 i := ⟨_, rfl⟩
    rw [← hR]
    have hX46 : (t.t = [46]) = (X = ⟨#[46]⟩) := by
      rw [hX]
      exact propext (arr_eq (k := [46])).symm
    unfold endT at hR
    rw [← hK, ← hK2, g2] at hR
    simp only [hX46] at hR
    have HR := hide hR
    have HS := hide hS
    have hnS := fun W => run_neqB F2 F1 W
    have j0 : (0 : Int) ≤ (i : Int) := by omega
    have j1 : (i : Int) < (n : Int) := by omega
    have j2 : (0 : Int) ≤ (i : Int) + 1 := by omega
    have j3 : (i : Int) + 1 < (n : Int) := by omega
    have hi1 : ((i : Int) + 1).toNat = i + 1 := by omega
    clear hp2 hp2S hp20 hp2e hp2z g1 g2 hK hS hE hX hK2 hS2 hE2 hX2 hF1 hF2 hX2d hX2z hD2 hEN hF1d hF1z hFO hR hX46 hok he HTK HTK2
    go_enter Tryd.func30, Tryd.ntmps30
    go_wp2
    go_region
    · generalize hW : World.drew _ = W0
      have b5 : Blk W0 w.heap.size 33 #[.int .i64 K, .int .i64 S, .int .i64 E, .string X] := by rw [← hW]; exact ((Blk.new w _ _).alloc _).drew
      have b6 : Blk W0 (w.heap.size + 1) 33 #[.int .i64 K2, .int .i64 S2, .int .i64 E2, .string X2] := by rw [← hW]; exact (Blk.at_ (by simp)).drew
      have hb0 : Below w.heap.size w W0 := by rw [← hW]; exact below_drewN (show Below w.heap.size w _ by go_grown) 1
      have q50 : W0.cell? ⟨(w.heap.size), 0, none⟩ = some (.int .i64 K) := b5.cell 0
      have q51 : W0.cell? ⟨(w.heap.size), 1, none⟩ = some (.int .i64 S) := b5.cell 1
      have q53 : W0.cell? ⟨(w.heap.size), 3, none⟩ = some (.string X) := b5.cell 3
      have q60 : W0.cell? ⟨(w.heap.size + 1), 0, none⟩ = some (.int .i64 K2) := b6.cell 0
      have q63 : W0.cell? ⟨(w.heap.size + 1), 3, none⟩ = some (.string X2) := b6.cell 3
      have l5 := b5.lt
      have l6 := b6.lt
      have hz0 := hb0.size
      clear c0 c1 c2 c3 e0 e1 e2 e3 hW
      by_cases hk3 : K = 3
      · subst hk3
        by_cases h3 : K2 = 3
        · subst h3
          have HV := hide (show R = false by rw [HR.out, if_pos (by simp)])
          clear HR
          go_wp2
          go_ret
          exact ⟨ret_bool HV.out.symm, by go_grown⟩
        · have k23 : (K2 == 3) = false := by simp [h3]
          by_cases hx : X = ⟨#[46]⟩
          · have hs : (X.toList == [46]) = true := dot_yes hx
            have HX := hide hx
            clear hx
            by_cases hi0 : i = 0
            · subst hi0
              have HND := hide (show ¬ (X = ⟨#[46]⟩ ∧ 0 < 0 ∧ dotB (L.getD (0 - 1) dT) t = true) from fun h => Nat.lt_irrefl 0 h.2.1)
              by_cases h1 : K2 = 1
              · have h3 : ¬ (1 : Int) = 3 := by decide
                subst h1
                have hb0W := hb0
                have hz0W := hb0W.size
                have HV := hide (show R = decide (F2 ≠ F1) by rw [HR.out, if_neg (by simp), if_neg HND.out, if_pos rfl])
                clear HR HND
                go_wp2_with fail
                refine (HD2.out _ (tabs_keep HT.out (by go_grown) (Nat.le_refl _))).mono ?_
                rintro e w4 ⟨v4, rfl, hv4, hb4⟩
                have hbw4 : Below w.heap.size w w4 := Below.trans (show Below w.heap.size w _ by go_grown) (hb4.mono (by first | omega | (simp; omega)))
                have hz4 := hbw4.size
                obtain ⟨A4, n4, c4, rfl, HM4, hmc4, hmb4, hrd4⟩ := hv4
                have h14 : 1 ≤ n4 := by rw [← HM4.out]; exact HP2.out
                obtain ⟨b4, o4, rfl, hbb4, d4⟩ := hrd4.at1 (show 0 < n4 by omega)
                have HI := hide (show Ints w4 w4.heap.size (.slice (some ⟨b4, o4, none⟩) 1 c4) [ps2.getD 0 0] from ⟨_, 1, c4, rfl, hide rfl, by omega, by unfold big; omega, fun _ => ⟨b4, o4, rfl, hbb4, fun ii jj hii hjj => by
                  obtain rfl : ii = 0 := by omega
                  obtain rfl : jj = 0 := by omega
                  simpa using (show w4.cell? ⟨b4, o4, none⟩ = some (intCell [ps2.getD 0 0] 0 0) from d4)⟩⟩)
                have hsl := fun W => run_first b4 o4 n4 c4 h14 hmc4 W
                clear hb4 hmb4 hrd4 HD2 d4 HM4
                go_wp2_with fail
                refine (HEN.out _ _ w4.heap.size (by simp) (HI.out.below (show Below w4.heap.size w4 _ by go_grown) (Nat.le_refl _))).mono ?_
                rintro e w5 ⟨rfl, hb5⟩
                have hbw5 : Below w.heap.size w w5 := Below.trans (hbw4.alloc hz4 _) (hb5.mono (by simp; omega))
                have hz5 := hbw5.size
                clear hb5 HEN HI
                go_wp2_with fail
                refine (HFO.out _ (tabs_keep HT.out (by go_grown) (Nat.le_refl _))).mono ?_
                rintro e w6 ⟨rfl, hb6⟩
                have hbw6 : Below w.heap.size w w6 := Below.trans (hbw5.alloc hz5 _) (hb6.mono (by simp; omega))
                have hz6 := hbw6.size
                clear hb6 HFO
                go_wp2
                go_ret
                exact ⟨ret_bool ((neq_toList _ _).trans HV.out.symm), by go_grown⟩
              · have k21 : (K2 == 1) = false := by simp [h1]
                have hb0W := hb0
                have hz0W := hb0W.size
                have HV := hide (show R = true by rw [HR.out, if_neg (by simp [h3]), if_neg HND.out, if_neg h1])
                clear HR HND h1
                go_wp2
                go_ret
                exact ⟨ret_bool HV.out.symm, by go_grown⟩
            · obtain ⟨j, rfl⟩ : ∃ j, i = j + 1 := ⟨i - 1, by omega⟩
              have hjl : j < L.length := by rw [HN.out]; omega
              obtain ⟨b', off', tb, hA', hbb', r0, r1, r2, r3, HTB⟩ := tok_at (hrd.below hb0 hB) (show j < n by omega)
              simp only [Option.some.injEq, Addr.mk.injEq, and_true] at hA'
              obtain ⟨rfl, rfl⟩ := hA'
              obtain ⟨ps1, hp1, _, _, hp1e, hp1z⟩ := okTok_at HOK.out hjl
              rw [HTB.out] at hp1 hp1e hp1z
              obtain ⟨X1, hX1⟩ : ∃ x, x = (⟨tb.t.toArray⟩ : ByteArray) := ⟨_, rfl⟩
              have hX1d : X1.data.toList = tb.t := by rw [hX1]
              have hX1z : X1.size ≤ maxLen := by
                have : X1.data.toList.length = X1.size := by simp
                rw [hX1d] at this
                unfold maxLen; omega
              have hD1 := fun W (h : Tabs W) => decode_ints X1 W h hX1z
              rw [hX1d, hp1] at hD1
              have HD1 := hide hD1
              obtain ⟨K1, hK1⟩ : ∃ x, x = tb.k := ⟨_, rfl⟩
              obtain ⟨S1, hS1⟩ : ∃ x, x = tb.s := ⟨_, rfl⟩
              obtain ⟨E1, hE1⟩ : ∃ x, x = tb.e := ⟨_, rfl⟩
              rw [← hK1] at r0
              rw [← hS1] at r1
              rw [← hE1] at r2
              rw [← hX1] at r3
              have hdot : dotB (L.getD (j + 1 - 1) dT) t = (decide (K1 = 1) && (decide (E1 = S) && decide (ps1.length = 1))) := by
                rw [show j + 1 - 1 = j by omega, HTB.out]
                unfold dotB
                rw [hp1, ← hK1, ← hE1, ← HS.out]
              have HDOT := hide hdot
              have m0 : (0 : Int) ≤ ((j + 1 : Nat) : Int) - 1 := by omega
              have m1 : ((j + 1 : Nat) : Int) - 1 < (n : Int) := by omega
              have m2 : (((j + 1 : Nat) : Int) - 1).toNat = j := by omega
              have hbb0 : b < W0.heap.size := by omega
              clear hp1 hp1e hp1z hX1d hX1z hX1 hD1 hK1 hS1 hE1 HTB hdot hjl hi0
              go_wp2_with fail
              refine (HD1.out _ (tabs_keep HT.out (by go_grown) (Nat.le_refl _))).mono ?_
              rintro e w3 ⟨v3, rfl, hv3, hb3⟩
              have hb03 : Below W0.heap.size W0 w3 := Below.trans (show Below W0.heap.size W0 _ by go_grown) (hb3.mono (by first | omega | simp))
              have bB := (Blk.new W0 33 #[.int .i64 K1, .int .i64 S1, .int .i64 E1, .string X1]).below hb3 (by simp)
              have y0 : w3.cell? ⟨W0.heap.size, 0, none⟩ = some (.int .i64 K1) := bB.cell 0
              have y2 : w3.cell? ⟨W0.heap.size, 2, none⟩ = some (.int .i64 E1) := bB.cell 2
              have ly := bB.lt
              have hbw3 : Below w.heap.size w w3 := hb0.trans (hb03.mono hz0)
              have hz3 := hbw3.size
              have q50 := keep_cell hb03 q50 l5
              have q51 := keep_cell hb03 q51 l5
              have q60 := keep_cell hb03 q60 l6
              have q63 := keep_cell hb03 q63 l6
              have l5 : (w.heap.size) < w3.heap.size := by omega
              have l6 : (w.heap.size + 1) < w3.heap.size := by omega
              obtain ⟨A3, n3, c3, rfl, HM3, hmc3, hmb3, hrd3⟩ := hv3
              have HDOT := hide (show dotB (L.getD (j + 1 - 1) dT) t = (decide (K1 = 1) && (decide (E1 = S) && decide (n3 = 1))) by rw [HDOT.out, HM3.out])
              clear hb3 bB hmb3 hrd3 HD1 r0 r1 r2 r3 HM3 hb03 q53
              by_cases hk1 : K1 = 1
              · subst hk1
                by_cases he1 : E1 = S
                · subst he1
                  by_cases hn1 : n3 = 1
                  · subst hn1
                    have HV := hide (show R = false by rw [HR.out, if_neg (by simp [h3]), if_pos ⟨HX.out, by omega, by rw [HDOT.out]; simp⟩])
                    clear HR HDOT
                    go_wp2
                    go_ret
                    exact ⟨ret_bool HV.out.symm, by go_grown⟩
                  · have hn1b : ((n3 : Int) == 1) = false := by simp; omega
                    have HND := hide (show ¬ (X = ⟨#[46]⟩ ∧ 0 < j + 1 ∧ dotB (L.getD (j + 1 - 1) dT) t = true) by rw [HDOT.out]; simp [hn1])
                    clear hn1 HDOT
                    by_cases h1 : K2 = 1
                    · have h3 : ¬ (1 : Int) = 3 := by decide
                      subst h1
                      have hb0W := hbw3
                      have hz0W := hb0W.size
                      have HV := hide (show R = decide (F2 ≠ F1) by rw [HR.out, if_neg (by simp), if_neg HND.out, if_pos rfl])
                      clear HR HND
                      go_wp2_with fail
                      refine (HD2.out _ (tabs_keep HT.out (by go_grown) (Nat.le_refl _))).mono ?_
                      rintro e w4 ⟨v4, rfl, hv4, hb4⟩
                      have hbw4 : Below w.heap.size w w4 := Below.trans (show Below w.heap.size w _ by go_grown) (hb4.mono (by first | omega | (simp; omega)))
                      have hz4 := hbw4.size
                      obtain ⟨A4, n4, c4, rfl, HM4, hmc4, hmb4, hrd4⟩ := hv4
                      have h14 : 1 ≤ n4 := by rw [← HM4.out]; exact HP2.out
                      obtain ⟨b4, o4, rfl, hbb4, d4⟩ := hrd4.at1 (show 0 < n4 by omega)
                      have HI := hide (show Ints w4 w4.heap.size (.slice (some ⟨b4, o4, none⟩) 1 c4) [ps2.getD 0 0] from ⟨_, 1, c4, rfl, hide rfl, by omega, by unfold big; omega, fun _ => ⟨b4, o4, rfl, hbb4, fun ii jj hii hjj => by
                        obtain rfl : ii = 0 := by omega
                        obtain rfl : jj = 0 := by omega
                        simpa using (show w4.cell? ⟨b4, o4, none⟩ = some (intCell [ps2.getD 0 0] 0 0) from d4)⟩⟩)
                      have hsl := fun W => run_first b4 o4 n4 c4 h14 hmc4 W
                      clear hb4 hmb4 hrd4 HD2 d4 HM4
                      go_wp2_with fail
                      refine (HEN.out _ _ w4.heap.size (by simp) (HI.out.below (show Below w4.heap.size w4 _ by go_grown) (Nat.le_refl _))).mono ?_
                      rintro e w5 ⟨rfl, hb5⟩
                      have hbw5 : Below w.heap.size w w5 := Below.trans (hbw4.alloc hz4 _) (hb5.mono (by simp; omega))
                      have hz5 := hbw5.size
                      clear hb5 HEN HI
                      go_wp2_with fail
                      refine (HFO.out _ (tabs_keep HT.out (by go_grown) (Nat.le_refl _))).mono ?_
                      rintro e w6 ⟨rfl, hb6⟩
                      have hbw6 : Below w.heap.size w w6 := Below.trans (hbw5.alloc hz5 _) (hb6.mono (by simp; omega))
                      have hz6 := hbw6.size
                      clear hb6 HFO
                      go_wp2
                      go_ret
                      exact ⟨ret_bool ((neq_toList _ _).trans HV.out.symm), by go_grown⟩
                    · have k21 : (K2 == 1) = false := by simp [h1]
                      have hb0W := hbw3
                      have hz0W := hb0W.size
                      have HV := hide (show R = true by rw [HR.out, if_neg (by simp [h3]), if_neg HND.out, if_neg h1])
                      clear HR HND h1
                      go_wp2
                      go_ret
                      exact ⟨ret_bool HV.out.symm, by go_grown⟩
                · have he1b : (E1 == S) = false := by simp [he1]
                  have HND := hide (show ¬ (X = ⟨#[46]⟩ ∧ 0 < j + 1 ∧ dotB (L.getD (j + 1 - 1) dT) t = true) by rw [HDOT.out]; simp [he1])
                  clear he1 HDOT
                  by_cases h1 : K2 = 1
                  · have h3 : ¬ (1 : Int) = 3 := by decide
                    subst h1
                    have hb0W := hbw3
                    have hz0W := hb0W.size
                    have HV := hide (show R = decide (F2 ≠ F1) by rw [HR.out, if_neg (by simp), if_neg HND.out, if_pos rfl])
                    clear HR HND
                    go_wp2_with fail
                    refine (HD2.out _ (tabs_keep HT.out (by go_grown) (Nat.le_refl _))).mono ?_
                    rintro e w4 ⟨v4, rfl, hv4, hb4⟩
                    have hbw4 : Below w.heap.size w w4 := Below.trans (show Below w.heap.size w _ by go_grown) (hb4.mono (by first | omega | (simp; omega)))
                    have hz4 := hbw4.size
                    obtain ⟨A4, n4, c4, rfl, HM4, hmc4, hmb4, hrd4⟩ := hv4
                    have h14 : 1 ≤ n4 := by rw [← HM4.out]; exact HP2.out
                    obtain ⟨b4, o4, rfl, hbb4, d4⟩ := hrd4.at1 (show 0 < n4 by omega)
                    have HI := hide (show Ints w4 w4.heap.size (.slice (some ⟨b4, o4, none⟩) 1 c4) [ps2.getD 0 0] from ⟨_, 1, c4, rfl, hide rfl, by omega, by unfold big; omega, fun _ => ⟨b4, o4, rfl, hbb4, fun ii jj hii hjj => by
                      obtain rfl : ii = 0 := by omega
                      obtain rfl : jj = 0 := by omega
                      simpa using (show w4.cell? ⟨b4, o4, none⟩ = some (intCell [ps2.getD 0 0] 0 0) from d4)⟩⟩)
                    have hsl := fun W => run_first b4 o4 n4 c4 h14 hmc4 W
                    clear hb4 hmb4 hrd4 HD2 d4 HM4
                    go_wp2_with fail
                    refine (HEN.out _ _ w4.heap.size (by simp) (HI.out.below (show Below w4.heap.size w4 _ by go_grown) (Nat.le_refl _))).mono ?_
                    rintro e w5 ⟨rfl, hb5⟩
                    have hbw5 : Below w.heap.size w w5 := Below.trans (hbw4.alloc hz4 _) (hb5.mono (by simp; omega))
                    have hz5 := hbw5.size
                    clear hb5 HEN HI
                    go_wp2_with fail
                    refine (HFO.out _ (tabs_keep HT.out (by go_grown) (Nat.le_refl _))).mono ?_
                    rintro e w6 ⟨rfl, hb6⟩
                    have hbw6 : Below w.heap.size w w6 := Below.trans (hbw5.alloc hz5 _) (hb6.mono (by simp; omega))
                    have hz6 := hbw6.size
                    clear hb6 HFO
                    go_wp2
                    go_ret
                    exact ⟨ret_bool ((neq_toList _ _).trans HV.out.symm), by go_grown⟩
                  · have k21 : (K2 == 1) = false := by simp [h1]
                    have hb0W := hbw3
                    have hz0W := hb0W.size
                    have HV := hide (show R = true by rw [HR.out, if_neg (by simp [h3]), if_neg HND.out, if_neg h1])
                    clear HR HND h1
                    go_wp2
                    go_ret
                    exact ⟨ret_bool HV.out.symm, by go_grown⟩
              · have hk1b : (K1 == 1) = false := by simp [hk1]
                have HND := hide (show ¬ (X = ⟨#[46]⟩ ∧ 0 < j + 1 ∧ dotB (L.getD (j + 1 - 1) dT) t = true) by rw [HDOT.out]; simp [hk1])
                clear hk1 HDOT
                by_cases h1 : K2 = 1
                · have h3 : ¬ (1 : Int) = 3 := by decide
                  subst h1
                  have hb0W := hbw3
                  have hz0W := hb0W.size
                  have HV := hide (show R = decide (F2 ≠ F1) by rw [HR.out, if_neg (by simp), if_neg HND.out, if_pos rfl])
                  clear HR HND
                  go_wp2_with fail
                  refine (HD2.out _ (tabs_keep HT.out (by go_grown) (Nat.le_refl _))).mono ?_
                  rintro e w4 ⟨v4, rfl, hv4, hb4⟩
                  have hbw4 : Below w.heap.size w w4 := Below.trans (show Below w.heap.size w _ by go_grown) (hb4.mono (by first | omega | (simp; omega)))
                  have hz4 := hbw4.size
                  obtain ⟨A4, n4, c4, rfl, HM4, hmc4, hmb4, hrd4⟩ := hv4
                  have h14 : 1 ≤ n4 := by rw [← HM4.out]; exact HP2.out
                  obtain ⟨b4, o4, rfl, hbb4, d4⟩ := hrd4.at1 (show 0 < n4 by omega)
                  have HI := hide (show Ints w4 w4.heap.size (.slice (some ⟨b4, o4, none⟩) 1 c4) [ps2.getD 0 0] from ⟨_, 1, c4, rfl, hide rfl, by omega, by unfold big; omega, fun _ => ⟨b4, o4, rfl, hbb4, fun ii jj hii hjj => by
                    obtain rfl : ii = 0 := by omega
                    obtain rfl : jj = 0 := by omega
                    simpa using (show w4.cell? ⟨b4, o4, none⟩ = some (intCell [ps2.getD 0 0] 0 0) from d4)⟩⟩)
                  have hsl := fun W => run_first b4 o4 n4 c4 h14 hmc4 W
                  clear hb4 hmb4 hrd4 HD2 d4 HM4
                  go_wp2_with fail
                  refine (HEN.out _ _ w4.heap.size (by simp) (HI.out.below (show Below w4.heap.size w4 _ by go_grown) (Nat.le_refl _))).mono ?_
                  rintro e w5 ⟨rfl, hb5⟩
                  have hbw5 : Below w.heap.size w w5 := Below.trans (hbw4.alloc hz4 _) (hb5.mono (by simp; omega))
                  have hz5 := hbw5.size
                  clear hb5 HEN HI
                  go_wp2_with fail
                  refine (HFO.out _ (tabs_keep HT.out (by go_grown) (Nat.le_refl _))).mono ?_
                  rintro e w6 ⟨rfl, hb6⟩
                  have hbw6 : Below w.heap.size w w6 := Below.trans (hbw5.alloc hz5 _) (hb6.mono (by simp; omega))
                  have hz6 := hbw6.size
                  clear hb6 HFO
                  go_wp2
                  go_ret
                  exact ⟨ret_bool ((neq_toList _ _).trans HV.out.symm), by go_grown⟩
                · have k21 : (K2 == 1) = false := by simp [h1]
                  have hb0W := hbw3
                  have hz0W := hb0W.size
                  have HV := hide (show R = true by rw [HR.out, if_neg (by simp [h3]), if_neg HND.out, if_neg h1])
                  clear HR HND h1
                  go_wp2
                  go_ret
                  exact ⟨ret_bool HV.out.symm, by go_grown⟩
          · have hs : (X.toList == [46]) = false := dot_no hx
            have HND := hide (show ¬ (X = ⟨#[46]⟩ ∧ 0 < i ∧ dotB (L.getD (i - 1) dT) t = true) by simp [hx])
            clear hx
            by_cases h1 : K2 = 1
            · have h3 : ¬ (1 : Int) = 3 := by decide
              subst h1
              have hb0W := hb0
              have hz0W := hb0W.size
              have HV := hide (show R = decide (F2 ≠ F1) by rw [HR.out, if_neg (by simp), if_neg HND.out, if_pos rfl])
              clear HR HND
              go_wp2_with fail
              refine (HD2.out _ (tabs_keep HT.out (by go_grown) (Nat.le_refl _))).mono ?_
              rintro e w4 ⟨v4, rfl, hv4, hb4⟩
              have hbw4 : Below w.heap.size w w4 := Below.trans (show Below w.heap.size w _ by go_grown) (hb4.mono (by first | omega | (simp; omega)))
              have hz4 := hbw4.size
              obtain ⟨A4, n4, c4, rfl, HM4, hmc4, hmb4, hrd4⟩ := hv4
              have h14 : 1 ≤ n4 := by rw [← HM4.out]; exact HP2.out
              obtain ⟨b4, o4, rfl, hbb4, d4⟩ := hrd4.at1 (show 0 < n4 by omega)
              have HI := hide (show Ints w4 w4.heap.size (.slice (some ⟨b4, o4, none⟩) 1 c4) [ps2.getD 0 0] from ⟨_, 1, c4, rfl, hide rfl, by omega, by unfold big; omega, fun _ => ⟨b4, o4, rfl, hbb4, fun ii jj hii hjj => by
                obtain rfl : ii = 0 := by omega
                obtain rfl : jj = 0 := by omega
                simpa using (show w4.cell? ⟨b4, o4, none⟩ = some (intCell [ps2.getD 0 0] 0 0) from d4)⟩⟩)
              have hsl := fun W => run_first b4 o4 n4 c4 h14 hmc4 W
              clear hb4 hmb4 hrd4 HD2 d4 HM4
              go_wp2_with fail
              refine (HEN.out _ _ w4.heap.size (by simp) (HI.out.below (show Below w4.heap.size w4 _ by go_grown) (Nat.le_refl _))).mono ?_
              rintro e w5 ⟨rfl, hb5⟩
              have hbw5 : Below w.heap.size w w5 := Below.trans (hbw4.alloc hz4 _) (hb5.mono (by simp; omega))
              have hz5 := hbw5.size
              clear hb5 HEN HI
              go_wp2_with fail
              refine (HFO.out _ (tabs_keep HT.out (by go_grown) (Nat.le_refl _))).mono ?_
              rintro e w6 ⟨rfl, hb6⟩
              have hbw6 : Below w.heap.size w w6 := Below.trans (hbw5.alloc hz5 _) (hb6.mono (by simp; omega))
              have hz6 := hbw6.size
              clear hb6 HFO
              go_wp2
              go_ret
              exact ⟨ret_bool ((neq_toList _ _).trans HV.out.symm), by go_grown⟩
            · have k21 : (K2 == 1) = false := by simp [h1]
              have hb0W := hb0
              have hz0W := hb0W.size
              have HV := hide (show R = true by rw [HR.out, if_neg (by simp [h3]), if_neg HND.out, if_neg h1])
              clear HR HND h1
              go_wp2
              go_ret
              exact ⟨ret_bool HV.out.symm, by go_grown⟩
      · have k3 : (K != 3) = true := by simp [hk3]
        have HV := hide (show R = false by rw [HR.out, if_pos (.inl hk3)])
        clear HR hk3
        go_wp2
        go_ret
        exact ⟨ret_bool HV.out.symm, by go_grown⟩
    · generalize hW : World.drew _ = W0
      have b6 : Blk W0 w.heap.size 33 #[.int .i64 K2, .int .i64 S2, .int .i64 E2, .string X2] := by rw [← hW]; exact ((Blk.new w _ _).alloc _).drew
      have b5 : Blk W0 (w.heap.size + 1) 33 #[.int .i64 K, .int .i64 S, .int .i64 E, .string X] := by rw [← hW]; exact (Blk.at_ (by simp)).drew
      have hb0 : Below w.heap.size w W0 := by rw [← hW]; exact below_drewN (show Below w.heap.size w _ by go_grown) 1
      have q50 : W0.cell? ⟨(w.heap.size + 1), 0, none⟩ = some (.int .i64 K) := b5.cell 0
      have q51 : W0.cell? ⟨(w.heap.size + 1), 1, none⟩ = some (.int .i64 S) := b5.cell 1
      have q53 : W0.cell? ⟨(w.heap.size + 1), 3, none⟩ = some (.string X) := b5.cell 3
      have q60 : W0.cell? ⟨(w.heap.size), 0, none⟩ = some (.int .i64 K2) := b6.cell 0
      have q63 : W0.cell? ⟨(w.heap.size), 3, none⟩ = some (.string X2) := b6.cell 3
      have l5 := b5.lt
      have l6 := b6.lt
      have hz0 := hb0.size
      clear c0 c1 c2 c3 e0 e1 e2 e3 hW
      by_cases hk3 : K = 3
      · subst hk3
        by_cases h3 : K2 = 3
        · subst h3
          have HV := hide (show R = false by rw [HR.out, if_pos (by simp)])
          clear HR
          go_wp2
          go_ret
          exact ⟨ret_bool HV.out.symm, by go_grown⟩
        · have k23 : (K2 == 3) = false := by simp [h3]
          by_cases hx : X = ⟨#[46]⟩
          · have hs : (X.toList == [46]) = true := dot_yes hx
            have HX := hide hx
            clear hx
            by_cases hi0 : i = 0
            · subst hi0
              have HND := hide (show ¬ (X = ⟨#[46]⟩ ∧ 0 < 0 ∧ dotB (L.getD (0 - 1) dT) t = true) from fun h => Nat.lt_irrefl 0 h.2.1)
              by_cases h1 : K2 = 1
              · have h3 : ¬ (1 : Int) = 3 := by decide
                subst h1
                have hb0W := hb0
                have hz0W := hb0W.size
                have HV := hide (show R = decide (F2 ≠ F1) by rw [HR.out, if_neg (by simp), if_neg HND.out, if_pos rfl])
                clear HR HND
                go_wp2_with fail
                refine (HD2.out _ (tabs_keep HT.out (by go_grown) (Nat.le_refl _))).mono ?_
                rintro e w4 ⟨v4, rfl, hv4, hb4⟩
                have hbw4 : Below w.heap.size w w4 := Below.trans (show Below w.heap.size w _ by go_grown) (hb4.mono (by first | omega | (simp; omega)))
                have hz4 := hbw4.size
                obtain ⟨A4, n4, c4, rfl, HM4, hmc4, hmb4, hrd4⟩ := hv4
                have h14 : 1 ≤ n4 := by rw [← HM4.out]; exact HP2.out
                obtain ⟨b4, o4, rfl, hbb4, d4⟩ := hrd4.at1 (show 0 < n4 by omega)
                have HI := hide (show Ints w4 w4.heap.size (.slice (some ⟨b4, o4, none⟩) 1 c4) [ps2.getD 0 0] from ⟨_, 1, c4, rfl, hide rfl, by omega, by unfold big; omega, fun _ => ⟨b4, o4, rfl, hbb4, fun ii jj hii hjj => by
                  obtain rfl : ii = 0 := by omega
                  obtain rfl : jj = 0 := by omega
                  simpa using (show w4.cell? ⟨b4, o4, none⟩ = some (intCell [ps2.getD 0 0] 0 0) from d4)⟩⟩)
                have hsl := fun W => run_first b4 o4 n4 c4 h14 hmc4 W
                clear hb4 hmb4 hrd4 HD2 d4 HM4
                go_wp2_with fail
                refine (HEN.out _ _ w4.heap.size (by simp) (HI.out.below (show Below w4.heap.size w4 _ by go_grown) (Nat.le_refl _))).mono ?_
                rintro e w5 ⟨rfl, hb5⟩
                have hbw5 : Below w.heap.size w w5 := Below.trans (hbw4.alloc hz4 _) (hb5.mono (by simp; omega))
                have hz5 := hbw5.size
                clear hb5 HEN HI
                go_wp2_with fail
                refine (HFO.out _ (tabs_keep HT.out (by go_grown) (Nat.le_refl _))).mono ?_
                rintro e w6 ⟨rfl, hb6⟩
                have hbw6 : Below w.heap.size w w6 := Below.trans (hbw5.alloc hz5 _) (hb6.mono (by simp; omega))
                have hz6 := hbw6.size
                clear hb6 HFO
                go_wp2
                go_ret
                exact ⟨ret_bool ((neq_toList _ _).trans HV.out.symm), by go_grown⟩
              · have k21 : (K2 == 1) = false := by simp [h1]
                have hb0W := hb0
                have hz0W := hb0W.size
                have HV := hide (show R = true by rw [HR.out, if_neg (by simp [h3]), if_neg HND.out, if_neg h1])
                clear HR HND h1
                go_wp2
                go_ret
                exact ⟨ret_bool HV.out.symm, by go_grown⟩
            · obtain ⟨j, rfl⟩ : ∃ j, i = j + 1 := ⟨i - 1, by omega⟩
              have hjl : j < L.length := by rw [HN.out]; omega
              obtain ⟨b', off', tb, hA', hbb', r0, r1, r2, r3, HTB⟩ := tok_at (hrd.below hb0 hB) (show j < n by omega)
              simp only [Option.some.injEq, Addr.mk.injEq, and_true] at hA'
              obtain ⟨rfl, rfl⟩ := hA'
              obtain ⟨ps1, hp1, _, _, hp1e, hp1z⟩ := okTok_at HOK.out hjl
              rw [HTB.out] at hp1 hp1e hp1z
              obtain ⟨X1, hX1⟩ : ∃ x, x = (⟨tb.t.toArray⟩ : ByteArray) := ⟨_, rfl⟩
              have hX1d : X1.data.toList = tb.t := by rw [hX1]
              have hX1z : X1.size ≤ maxLen := by
                have : X1.data.toList.length = X1.size := by simp
                rw [hX1d] at this
                unfold maxLen; omega
              have hD1 := fun W (h : Tabs W) => decode_ints X1 W h hX1z
              rw [hX1d, hp1] at hD1
              have HD1 := hide hD1
              obtain ⟨K1, hK1⟩ : ∃ x, x = tb.k := ⟨_, rfl⟩
              obtain ⟨S1, hS1⟩ : ∃ x, x = tb.s := ⟨_, rfl⟩
              obtain ⟨E1, hE1⟩ : ∃ x, x = tb.e := ⟨_, rfl⟩
              rw [← hK1] at r0
              rw [← hS1] at r1
              rw [← hE1] at r2
              rw [← hX1] at r3
              have hdot : dotB (L.getD (j + 1 - 1) dT) t = (decide (K1 = 1) && (decide (E1 = S) && decide (ps1.length = 1))) := by
                rw [show j + 1 - 1 = j by omega, HTB.out]
                unfold dotB
                rw [hp1, ← hK1, ← hE1, ← HS.out]
              have HDOT := hide hdot
              have m0 : (0 : Int) ≤ ((j + 1 : Nat) : Int) - 1 := by omega
              have m1 : ((j + 1 : Nat) : Int) - 1 < (n : Int) := by omega
              have m2 : (((j + 1 : Nat) : Int) - 1).toNat = j := by omega
              have hbb0 : b < W0.heap.size := by omega
              clear hp1 hp1e hp1z hX1d hX1z hX1 hD1 hK1 hS1 hE1 HTB hdot hjl hi0
              go_wp2_with fail
              refine (HD1.out _ (tabs_keep HT.out (by go_grown) (Nat.le_refl _))).mono ?_
              rintro e w3 ⟨v3, rfl, hv3, hb3⟩
              have hb03 : Below W0.heap.size W0 w3 := Below.trans (show Below W0.heap.size W0 _ by go_grown) (hb3.mono (by first | omega | simp))
              have bB := (Blk.new W0 33 #[.int .i64 K1, .int .i64 S1, .int .i64 E1, .string X1]).below hb3 (by simp)
              have y0 : w3.cell? ⟨W0.heap.size, 0, none⟩ = some (.int .i64 K1) := bB.cell 0
              have y2 : w3.cell? ⟨W0.heap.size, 2, none⟩ = some (.int .i64 E1) := bB.cell 2
              have ly := bB.lt
              have hbw3 : Below w.heap.size w w3 := hb0.trans (hb03.mono hz0)
              have hz3 := hbw3.size
              have q50 := keep_cell hb03 q50 l5
              have q51 := keep_cell hb03 q51 l5
              have q60 := keep_cell hb03 q60 l6
              have q63 := keep_cell hb03 q63 l6
              have l5 : (w.heap.size + 1) < w3.heap.size := by omega
              have l6 : (w.heap.size) < w3.heap.size := by omega
              obtain ⟨A3, n3, c3, rfl, HM3, hmc3, hmb3, hrd3⟩ := hv3
              have HDOT := hide (show dotB (L.getD (j + 1 - 1) dT) t = (decide (K1 = 1) && (decide (E1 = S) && decide (n3 = 1))) by rw [HDOT.out, HM3.out])
              clear hb3 bB hmb3 hrd3 HD1 r0 r1 r2 r3 HM3 hb03 q53
              by_cases hk1 : K1 = 1
              · subst hk1
                by_cases he1 : E1 = S
                · subst he1
                  by_cases hn1 : n3 = 1
                  · subst hn1
                    have HV := hide (show R = false by rw [HR.out, if_neg (by simp [h3]), if_pos ⟨HX.out, by omega, by rw [HDOT.out]; simp⟩])
                    clear HR HDOT
                    go_wp2
                    go_ret
                    exact ⟨ret_bool HV.out.symm, by go_grown⟩
                  · have hn1b : ((n3 : Int) == 1) = false := by simp; omega
                    have HND := hide (show ¬ (X = ⟨#[46]⟩ ∧ 0 < j + 1 ∧ dotB (L.getD (j + 1 - 1) dT) t = true) by rw [HDOT.out]; simp [hn1])
                    clear hn1 HDOT
                    by_cases h1 : K2 = 1
                    · have h3 : ¬ (1 : Int) = 3 := by decide
                      subst h1
                      have hb0W := hbw3
                      have hz0W := hb0W.size
                      have HV := hide (show R = decide (F2 ≠ F1) by rw [HR.out, if_neg (by simp), if_neg HND.out, if_pos rfl])
                      clear HR HND
                      go_wp2_with fail
                      refine (HD2.out _ (tabs_keep HT.out (by go_grown) (Nat.le_refl _))).mono ?_
                      rintro e w4 ⟨v4, rfl, hv4, hb4⟩
                      have hbw4 : Below w.heap.size w w4 := Below.trans (show Below w.heap.size w _ by go_grown) (hb4.mono (by first | omega | (simp; omega)))
                      have hz4 := hbw4.size
                      obtain ⟨A4, n4, c4, rfl, HM4, hmc4, hmb4, hrd4⟩ := hv4
                      have h14 : 1 ≤ n4 := by rw [← HM4.out]; exact HP2.out
                      obtain ⟨b4, o4, rfl, hbb4, d4⟩ := hrd4.at1 (show 0 < n4 by omega)
                      have HI := hide (show Ints w4 w4.heap.size (.slice (some ⟨b4, o4, none⟩) 1 c4) [ps2.getD 0 0] from ⟨_, 1, c4, rfl, hide rfl, by omega, by unfold big; omega, fun _ => ⟨b4, o4, rfl, hbb4, fun ii jj hii hjj => by
                        obtain rfl : ii = 0 := by omega
                        obtain rfl : jj = 0 := by omega
                        simpa using (show w4.cell? ⟨b4, o4, none⟩ = some (intCell [ps2.getD 0 0] 0 0) from d4)⟩⟩)
                      have hsl := fun W => run_first b4 o4 n4 c4 h14 hmc4 W
                      clear hb4 hmb4 hrd4 HD2 d4 HM4
                      go_wp2_with fail
                      refine (HEN.out _ _ w4.heap.size (by simp) (HI.out.below (show Below w4.heap.size w4 _ by go_grown) (Nat.le_refl _))).mono ?_
                      rintro e w5 ⟨rfl, hb5⟩
                      have hbw5 : Below w.heap.size w w5 := Below.trans (hbw4.alloc hz4 _) (hb5.mono (by simp; omega))
                      have hz5 := hbw5.size
                      clear hb5 HEN HI
                      go_wp2_with fail
                      refine (HFO.out _ (tabs_keep HT.out (by go_grown) (Nat.le_refl _))).mono ?_
                      rintro e w6 ⟨rfl, hb6⟩
                      have hbw6 : Below w.heap.size w w6 := Below.trans (hbw5.alloc hz5 _) (hb6.mono (by simp; omega))
                      have hz6 := hbw6.size
                      clear hb6 HFO
                      go_wp2
                      go_ret
                      exact ⟨ret_bool ((neq_toList _ _).trans HV.out.symm), by go_grown⟩
                    · have k21 : (K2 == 1) = false := by simp [h1]
                      have hb0W := hbw3
                      have hz0W := hb0W.size
                      have HV := hide (show R = true by rw [HR.out, if_neg (by simp [h3]), if_neg HND.out, if_neg h1])
                      clear HR HND h1
                      go_wp2
                      go_ret
                      exact ⟨ret_bool HV.out.symm, by go_grown⟩
                · have he1b : (E1 == S) = false := by simp [he1]
                  have HND := hide (show ¬ (X = ⟨#[46]⟩ ∧ 0 < j + 1 ∧ dotB (L.getD (j + 1 - 1) dT) t = true) by rw [HDOT.out]; simp [he1])
                  clear he1 HDOT
                  by_cases h1 : K2 = 1
                  · have h3 : ¬ (1 : Int) = 3 := by decide
                    subst h1
                    have hb0W := hbw3
                    have hz0W := hb0W.size
                    have HV := hide (show R = decide (F2 ≠ F1) by rw [HR.out, if_neg (by simp), if_neg HND.out, if_pos rfl])
                    clear HR HND
                    go_wp2_with fail
                    refine (HD2.out _ (tabs_keep HT.out (by go_grown) (Nat.le_refl _))).mono ?_
                    rintro e w4 ⟨v4, rfl, hv4, hb4⟩
                    have hbw4 : Below w.heap.size w w4 := Below.trans (show Below w.heap.size w _ by go_grown) (hb4.mono (by first | omega | (simp; omega)))
                    have hz4 := hbw4.size
                    obtain ⟨A4, n4, c4, rfl, HM4, hmc4, hmb4, hrd4⟩ := hv4
                    have h14 : 1 ≤ n4 := by rw [← HM4.out]; exact HP2.out
                    obtain ⟨b4, o4, rfl, hbb4, d4⟩ := hrd4.at1 (show 0 < n4 by omega)
                    have HI := hide (show Ints w4 w4.heap.size (.slice (some ⟨b4, o4, none⟩) 1 c4) [ps2.getD 0 0] from ⟨_, 1, c4, rfl, hide rfl, by omega, by unfold big; omega, fun _ => ⟨b4, o4, rfl, hbb4, fun ii jj hii hjj => by
                      obtain rfl : ii = 0 := by omega
                      obtain rfl : jj = 0 := by omega
                      simpa using (show w4.cell? ⟨b4, o4, none⟩ = some (intCell [ps2.getD 0 0] 0 0) from d4)⟩⟩)
                    have hsl := fun W => run_first b4 o4 n4 c4 h14 hmc4 W
                    clear hb4 hmb4 hrd4 HD2 d4 HM4
                    go_wp2_with fail
                    refine (HEN.out _ _ w4.heap.size (by simp) (HI.out.below (show Below w4.heap.size w4 _ by go_grown) (Nat.le_refl _))).mono ?_
                    rintro e w5 ⟨rfl, hb5⟩
                    have hbw5 : Below w.heap.size w w5 := Below.trans (hbw4.alloc hz4 _) (hb5.mono (by simp; omega))
                    have hz5 := hbw5.size
                    clear hb5 HEN HI
                    go_wp2_with fail
                    refine (HFO.out _ (tabs_keep HT.out (by go_grown) (Nat.le_refl _))).mono ?_
                    rintro e w6 ⟨rfl, hb6⟩
                    have hbw6 : Below w.heap.size w w6 := Below.trans (hbw5.alloc hz5 _) (hb6.mono (by simp; omega))
                    have hz6 := hbw6.size
                    clear hb6 HFO
                    go_wp2
                    go_ret
                    exact ⟨ret_bool ((neq_toList _ _).trans HV.out.symm), by go_grown⟩
                  · have k21 : (K2 == 1) = false := by simp [h1]
                    have hb0W := hbw3
                    have hz0W := hb0W.size
                    have HV := hide (show R = true by rw [HR.out, if_neg (by simp [h3]), if_neg HND.out, if_neg h1])
                    clear HR HND h1
                    go_wp2
                    go_ret
                    exact ⟨ret_bool HV.out.symm, by go_grown⟩
              · have hk1b : (K1 == 1) = false := by simp [hk1]
                have HND := hide (show ¬ (X = ⟨#[46]⟩ ∧ 0 < j + 1 ∧ dotB (L.getD (j + 1 - 1) dT) t = true) by rw [HDOT.out]; simp [hk1])
                clear hk1 HDOT
                by_cases h1 : K2 = 1
                · have h3 : ¬ (1 : Int) = 3 := by decide
                  subst h1
                  have hb0W := hbw3
                  have hz0W := hb0W.size
                  have HV := hide (show R = decide (F2 ≠ F1) by rw [HR.out, if_neg (by simp), if_neg HND.out, if_pos rfl])
                  clear HR HND
                  go_wp2_with fail
                  refine (HD2.out _ (tabs_keep HT.out (by go_grown) (Nat.le_refl _))).mono ?_
                  rintro e w4 ⟨v4, rfl, hv4, hb4⟩
                  have hbw4 : Below w.heap.size w w4 := Below.trans (show Below w.heap.size w _ by go_grown) (hb4.mono (by first | omega | (simp; omega)))
                  have hz4 := hbw4.size
                  obtain ⟨A4, n4, c4, rfl, HM4, hmc4, hmb4, hrd4⟩ := hv4
                  have h14 : 1 ≤ n4 := by rw [← HM4.out]; exact HP2.out
                  obtain ⟨b4, o4, rfl, hbb4, d4⟩ := hrd4.at1 (show 0 < n4 by omega)
                  have HI := hide (show Ints w4 w4.heap.size (.slice (some ⟨b4, o4, none⟩) 1 c4) [ps2.getD 0 0] from ⟨_, 1, c4, rfl, hide rfl, by omega, by unfold big; omega, fun _ => ⟨b4, o4, rfl, hbb4, fun ii jj hii hjj => by
                    obtain rfl : ii = 0 := by omega
                    obtain rfl : jj = 0 := by omega
                    simpa using (show w4.cell? ⟨b4, o4, none⟩ = some (intCell [ps2.getD 0 0] 0 0) from d4)⟩⟩)
                  have hsl := fun W => run_first b4 o4 n4 c4 h14 hmc4 W
                  clear hb4 hmb4 hrd4 HD2 d4 HM4
                  go_wp2_with fail
                  refine (HEN.out _ _ w4.heap.size (by simp) (HI.out.below (show Below w4.heap.size w4 _ by go_grown) (Nat.le_refl _))).mono ?_
                  rintro e w5 ⟨rfl, hb5⟩
                  have hbw5 : Below w.heap.size w w5 := Below.trans (hbw4.alloc hz4 _) (hb5.mono (by simp; omega))
                  have hz5 := hbw5.size
                  clear hb5 HEN HI
                  go_wp2_with fail
                  refine (HFO.out _ (tabs_keep HT.out (by go_grown) (Nat.le_refl _))).mono ?_
                  rintro e w6 ⟨rfl, hb6⟩
                  have hbw6 : Below w.heap.size w w6 := Below.trans (hbw5.alloc hz5 _) (hb6.mono (by simp; omega))
                  have hz6 := hbw6.size
                  clear hb6 HFO
                  go_wp2
                  go_ret
                  exact ⟨ret_bool ((neq_toList _ _).trans HV.out.symm), by go_grown⟩
                · have k21 : (K2 == 1) = false := by simp [h1]
                  have hb0W := hbw3
                  have hz0W := hb0W.size
                  have HV := hide (show R = true by rw [HR.out, if_neg (by simp [h3]), if_neg HND.out, if_neg h1])
                  clear HR HND h1
                  go_wp2
                  go_ret
                  exact ⟨ret_bool HV.out.symm, by go_grown⟩
          · have hs : (X.toList == [46]) = false := dot_no hx
            have HND := hide (show ¬ (X = ⟨#[46]⟩ ∧ 0 < i ∧ dotB (L.getD (i - 1) dT) t = true) by simp [hx])
            clear hx
            by_cases h1 : K2 = 1
            · have h3 : ¬ (1 : Int) = 3 := by decide
              subst h1
              have hb0W := hb0
              have hz0W := hb0W.size
              have HV := hide (show R = decide (F2 ≠ F1) by rw [HR.out, if_neg (by simp), if_neg HND.out, if_pos rfl])
              clear HR HND
              go_wp2_with fail
              refine (HD2.out _ (tabs_keep HT.out (by go_grown) (Nat.le_refl _))).mono ?_
              rintro e w4 ⟨v4, rfl, hv4, hb4⟩
              have hbw4 : Below w.heap.size w w4 := Below.trans (show Below w.heap.size w _ by go_grown) (hb4.mono (by first | omega | (simp; omega)))
              have hz4 := hbw4.size
              obtain ⟨A4, n4, c4, rfl, HM4, hmc4, hmb4, hrd4⟩ := hv4
              have h14 : 1 ≤ n4 := by rw [← HM4.out]; exact HP2.out
              obtain ⟨b4, o4, rfl, hbb4, d4⟩ := hrd4.at1 (show 0 < n4 by omega)
              have HI := hide (show Ints w4 w4.heap.size (.slice (some ⟨b4, o4, none⟩) 1 c4) [ps2.getD 0 0] from ⟨_, 1, c4, rfl, hide rfl, by omega, by unfold big; omega, fun _ => ⟨b4, o4, rfl, hbb4, fun ii jj hii hjj => by
                obtain rfl : ii = 0 := by omega
                obtain rfl : jj = 0 := by omega
                simpa using (show w4.cell? ⟨b4, o4, none⟩ = some (intCell [ps2.getD 0 0] 0 0) from d4)⟩⟩)
              have hsl := fun W => run_first b4 o4 n4 c4 h14 hmc4 W
              clear hb4 hmb4 hrd4 HD2 d4 HM4
              go_wp2_with fail
              refine (HEN.out _ _ w4.heap.size (by simp) (HI.out.below (show Below w4.heap.size w4 _ by go_grown) (Nat.le_refl _))).mono ?_
              rintro e w5 ⟨rfl, hb5⟩
              have hbw5 : Below w.heap.size w w5 := Below.trans (hbw4.alloc hz4 _) (hb5.mono (by simp; omega))
              have hz5 := hbw5.size
              clear hb5 HEN HI
              go_wp2_with fail
              refine (HFO.out _ (tabs_keep HT.out (by go_grown) (Nat.le_refl _))).mono ?_
              rintro e w6 ⟨rfl, hb6⟩
              have hbw6 : Below w.heap.size w w6 := Below.trans (hbw5.alloc hz5 _) (hb6.mono (by simp; omega))
              have hz6 := hbw6.size
              clear hb6 HFO
              go_wp2
              go_ret
              exact ⟨ret_bool ((neq_toList _ _).trans HV.out.symm), by go_grown⟩
            · have k21 : (K2 == 1) = false := by simp [h1]
              have hb0W := hb0
              have hz0W := hb0W.size
              have HV := hide (show R = true by rw [HR.out, if_neg (by simp [h3]), if_neg HND.out, if_neg h1])
              clear HR HND h1
              go_wp2
              go_ret
              exact ⟨ret_bool HV.out.symm, by go_grown⟩
      · have k3 : (K != 3) = true := by simp [hk3]
        have HV := hide (show R = false by rw [HR.out, if_pos (.inl hk3)])
        clear HR hk3
        go_wp2
        go_ret
        exact ⟨ret_bool HV.out.symm, by go_grown⟩
end Go.Proofs.YtcchpijadlgagaaDoor
