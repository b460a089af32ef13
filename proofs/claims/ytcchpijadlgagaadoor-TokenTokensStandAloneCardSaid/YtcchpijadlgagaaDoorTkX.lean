/- The reference's Joined, walked. -/
import Derived.Test.YtcchpijadlgagaaDoorTkS
import Derived.Deep.LoopGhost
namespace Go.Proofs.YtcchpijadlgagaaDoor
open Go.RowKit Gm
set_option linter.unusedSimpArgs false
set_option linter.unusedVariables false
theorem pt_at2 {w : World} {B n : Nat} {A : Option Addr} {l : List Int} (h : Rd w B 1 A n (intCell l)) {i : Nat} (hi : i < n) :
    ∃ b off p q, A = some ⟨b, off, none⟩ ∧ b < B ∧ w.cell? ⟨b, off + i, none⟩ = some (.int .i64 p) ∧ Hid (l.getD i 0 = p) ∧ Hid (clsP p = q) ∧ Hid (cl l i = q) := by
  obtain ⟨b, off, h1, h2, h3⟩ := h.at1 hi
  exact ⟨b, off, l.getD i 0, _, h1, h2, h3, hide rfl, hide rfl, hide rfl⟩
/- The macros read the names of the round below. -/
/- A word that stands behind a space; HSTOP: jS is false. -/
/- A stop stands without a space; HSTOP: jS is true. -/
set_option maxRecDepth 100000 in
set_option maxHeartbeats 20000000 in
theorem rjoin_any (v : Value) (l : List (List UInt8)) (w : World) (B : Nat) (hB : B ≤ w.heap.size) (h : Strs w B v l) :
    Calls Tryd.prog 10 #[v] w fun e w' => e = .returned (.tuple #[.string ⟨(joinR l).2.toArray⟩, .agg #[.int .i64 (joinR l).1.1, .int .i64 (joinR l).1.2]]) ∧ Below w.heap.size w w' := by
  have hne := fun a b c d W => run_neq_fault a b c d W
  have hf0 : fEq 0 0 0 0 = true := rfl
  obtain ⟨A, n, c, rfl, HN, hnc, hnb, hrd0, HX⟩ := h
  unfold big at hnb
  by_cases h300 : 300 < n
  · have HE := hide (show joinR l = ((2, -1), []) by unfold joinR; rw [if_pos (by rw [HN.out]; exact h300)])
    rw [HE.out]
    clear hrd0 HX HE HN
    go_enter Tryd.func10, Tryd.ntmps10
    go_wp2_with fail
    refine (rfault_any _ _ _).mono ?_
    rintro e w1 ⟨rfl, hb1⟩
    have bR := (Blk.new w 25 #[.int .i64 0, .int .i64 0]).below hb1 (by simp)
    have q0 : w1.cell? ⟨w.heap.size, 0, none⟩ = some (.int .i64 0) := bR.cell 0
    have q1 : w1.cell? ⟨w.heap.size, 1, none⟩ = some (.int .i64 0) := bR.cell 1
    have f0 := bR.frozen 0
    have f1 := bR.frozen 1
    have hz := bR.lt
    have hbw : Below w.heap.size w w1 := ((Below.refl _ _).alloc (Nat.le_refl _) _).trans (hb1.mono (by simp))
    clear bR hb1
    go_wp2
    exact bodyPost_ret (v := .tuple #[.string ⟨#[]⟩, .agg #[.int .i64 2, .int .i64 (-1)]]) (by simp [results, Tryd.results10, go_sem, q0, q1, f0, f1, hz]) rfl ⟨rfl, by go_grown⟩
  · obtain ⟨tot, htot⟩ : ∃ x, x = jGo l (n + 1) 0 [] := ⟨_, rfl⟩
    have HJ := hide (joinR_of HN.out h300 htot)
    have HT := hide htot
    clear htot
    go_enter Tryd.func10, Tryd.ntmps10
    go_wp2
    generalize hW : World.alloc _ _ = W0
    have hbw : Below w.heap.size w W0 := by rw [← hW]; go_grown
    have bR : Blk W0 w.heap.size 25 #[.int .i64 0, .int .i64 0] := by rw [← hW]; exact Blk.new _ _ _
    have hz0 := bR.lt
    have hrd : Rd W0 W0.heap.size 1 A n (strCell l) := (hrd0.below hbw hB).mono (by omega)
    clear hrd0 hW
    go_loopg [18, 4, 5] n (fun gk iv sv lv wr => ∃ (k f : Nat) (S : ByteArray) (lg : Bool) (acc : List (List UInt8)), k + gk = n ∧ n < f + k ∧ iv = .int .i64 k ∧ sv = .string S ∧ lv = .bool lg ∧ S.size ≤ 8001 ∧
        (lg = true → 0 < k) ∧ Hid (lg = false → S.data.toList = acc.flatten ∧ S.size ≤ 8000) ∧ Hid (lg = true → 8000 < acc.flatten.length) ∧ Below W0.heap.size W0 wr ∧ Hid (tot = jGo l f k acc))
    case atStart => exact ⟨0, n + 1, _, _, [], by omega, by omega, rfl, rfl, rfl, by decide, by simp, hide (fun _ => ⟨rfl, by decide⟩), hide (fun h => by cases h), Below.refl _ _, HT⟩
    case round =>
      clear HT
      obtain ⟨k, f, S, lg, acc, hkg, hf, rfl, rfl, rfl, hS, hlk, HS, HLG, hb, HR⟩ := hrel
      have bRc := bR.below hb hz0
      have q0 : wr.cell? ⟨w.heap.size, 0, none⟩ = some (.int .i64 0) := bRc.cell 0
      have q1 : wr.cell? ⟨w.heap.size, 1, none⟩ = some (.int .i64 0) := bRc.cell 1
      have f0 := bRc.frozen 0
      have f1 := bRc.frozen 1
      have hzc := bRc.lt
      have hbwc : Below w.heap.size w wr := hbw.trans (hb.mono hbw.size)
      clear bRc
      by_cases hkn : k < n
      · obtain ⟨f, rfl⟩ : ∃ f', f = f' + 1 := ⟨f - 1, by omega⟩
        obtain ⟨b, off, s, hA, hbB, c0, HSX, hsm, HS2⟩ := str_at (hrd.below hb (Nat.le_refl _)) HN HX hkn
        subst hA
        have hbz : b < wr.heap.size := by have := hb.size; omega
        have hkl : k < l.length := by rw [HN.out]; exact hkn
        have hlen : (l.getD k []).length = s.size := by rw [HSX.out]; simp
        by_cases h4 : 4000 < s.size
        · have hj : jF (l.getD k []) = 1 := by unfold jF; rw [if_pos (by omega)]
          have he := HR.out.trans (jGo_bad hkl (by rw [hj]; decide))
          rw [hj] at he
          have HE := hide (show joinR l = ((1, (k : Int)), []) by rw [HJ.out, he]; simp)
          unfold maxLen at hsm
          clear he hj hlen HR
          go_wp2_with fail
          refine (rfault_any _ _ _).mono ?_
          rintro e w5 ⟨rfl, hb5⟩
          have hz5 : w.heap.size < w5.heap.size := by have := hb5.size; omega
          have q0 := keep_cell hb5 q0 hzc
          have q1 := keep_cell hb5 q1 hzc
          have f0 := keep_free hb5 f0 hzc
          have f1 := keep_free hb5 f1 hzc
          have hbw5 : Below w.heap.size w w5 := hbwc.trans (hb5.mono hbwc.size)
          go_wp2
          rw [HE.out]
          exact bodyPost_ret (v := .tuple #[.string ⟨#[]⟩, .agg #[.int .i64 1, .int .i64 k]]) (by simp [results, Tryd.results10, go_sem, q0, q1, f0, f1, hz5]) rfl ⟨rfl, by go_grown⟩
        · have hsz : s.size ≤ 4000 := by omega
          rcases decR_cases s.data.toList with ⟨ps, hq⟩ | ⟨hq, hq2⟩
          · have hP := rpoints_ints s wr hsm
            rw [hq] at hP
            have HP := hide hP
            have hok := okW_of hq
            have hps : ps.length ≤ 4000 := by
              obtain ⟨_, g2, g3⟩ := decR_ok hq
              have := encL_len_le ps
              rw [← g2] at this; omega
            have hst : jS (l.getD k []) = decide (cl ps 0 = 6) := by unfold jS; rw [HSX.out, hq]
            have HST := hide hst
            clear hP hq hst
            go_wp2_with fail
            refine HP.out.mono ?_
            rintro e w1 ⟨v1, rfl, hv1, hb1⟩
            obtain ⟨A1, m, c1, rfl, HM, hmc, hmb, hrd1⟩ := hv1
            have hm4 : m ≤ 4000 := by rw [← HM.out]; exact hps
            have HWD := hide (fun W (hW : Below w1.heap.size w1 W) => wordly_any A1 m c1 ps W w1.heap.size HM.out (by omega) (hrd1.below hW (Nat.le_refl _)))
            have HNM := hide (fun W (hW : Below w1.heap.size w1 W) => numeral_any A1 m c1 ps W w1.heap.size HM.out (by omega) (hrd1.below hW (Nat.le_refl _)))
            have hz1 := hb1.size
            clear HP hps hmb
            obtain ⟨q, hq⟩ : ∃ q, q = cl ps 0 := ⟨_, rfl⟩
            have ho := one_mem HM.out hq.symm
            rw [← hq] at HST
            rw [ho] at hok
            clear ho
            by_cases hm1 : m = 1
            · subst hm1
              obtain ⟨bp, op, p, q', hAp, hbp, cp, HPp, HC, HQ⟩ := pt_at2 hrd1 (show 0 < 1 by omega)
              obtain rfl : q' = q := HQ.out.symm.trans hq.symm
              subst hAp
              rw [Nat.add_zero] at cp
              clear hq HQ hrd1 HPp
              by_cases h6 : q' = 6
              · have HOK : Hid (okW s.data.toList = true) := hide (by rw [hok]; simp [h6])
                have HSTOP : Hid (jS (l.getD k []) = true) := hide (by rw [HST.out]; simp [h6])
                clear hok HST HWD HNM HM
                subst h6
                have he := HR.out.trans (jGo_ok hkl (jF_ok.2 (by rw [HSX.out, HOK.out])))
                rcases Nat.eq_zero_or_pos k with hk0 | hk0
                · subst hk0
                  cases lg
                  · obtain ⟨hSd, hSz⟩ := HS.out rfl
                    have hjp : jP 0 (l.getD 0 []) = [l.getD 0 []] := by unfold jP; simp
                    obtain ⟨S1, hS1⟩ : ∃ x, x = S := ⟨_, rfl⟩
                    have hS1z : S1.size ≤ 8001 := by rw [hS1]; exact hS
                    have hS1d : S1.data.toList ++ s.data.toList = (acc ++ jP 0 (l.getD 0 [])).flatten := by rw [hjp, hS1, hSd, HSX.out]; simp
                    clear hSd hjp
                    subst hS1
                    have hs1l : S1.data.toList.length = S1.size := by simp
                    have hssl : s.data.toList.length = s.size := by simp
                    have hfl := congrArg List.length hS1d
                    rw [List.length_append] at hfl
                    have HS1D := hide hS1d
                    have HE := hide he
                    clear hS1d he HR HS HLG HJ HSX HS2 HX HOK HSTOP
                    by_cases hov : 8000 < S1.size + s.size
                    · have HLN := hide (show 8000 < (acc ++ jP 0 (l.getD 0 [])).flatten.length by omega)
                      clear hs1l hssl hfl
                      go_wp2_with (first | (go_at_call 21; refine (rclass_at _ _ HC.out _).mono ?_; rintro e w' ⟨rfl, rfl⟩) | (go_at_call 22; refine (HWD.out _ (by go_grown)).mono ?_; rintro e w' ⟨rfl, rfl⟩) | (go_at_call 23; refine (HNM.out _ (by go_grown)).mono ?_; rintro e w' ⟨rfl, rfl⟩))
                      go_roundg (gk - 1)
                      case measure => omega
                      case rel => exact ⟨1, f, S1, true, acc ++ jP 0 (l.getD 0 []), by omega, by omega, by go_num, rfl, rfl, hS1z, fun _ => by omega, hide (fun h => by cases h), hide (fun _ => HLN.out), hb.trans (Below.mono (hb1.trans (show Below wr.heap.size w1 _ by go_grown)) hb.size), HE⟩
                    · obtain ⟨S2, hS2e⟩ : ∃ x, x = S1 ++ s := ⟨_, rfl⟩
                      have hadd2 := run_addS S1 s S2 hS2e (by omega)
                      have hS2z : S2.size = S1.size + s.size := by rw [hS2e]; simp
                      have hS2d : S2.data.toList = (acc ++ jP 0 (l.getD 0 [])).flatten := by rw [← HS1D.out, hS2e]; simp
                      have HS2D := hide hS2d
                      have HS2E := hide hS2e
                      clear hS2e hS2d hs1l hssl hfl
                      go_wp2_with (first | (go_at_call 21; refine (rclass_at _ _ HC.out _).mono ?_; rintro e w' ⟨rfl, rfl⟩) | (go_at_call 22; refine (HWD.out _ (by go_grown)).mono ?_; rintro e w' ⟨rfl, rfl⟩) | (go_at_call 23; refine (HNM.out _ (by go_grown)).mono ?_; rintro e w' ⟨rfl, rfl⟩))
                      go_roundg (gk - 1)
                      case measure => omega
                      case rel => exact ⟨1, f, S2, false, acc ++ jP 0 (l.getD 0 []), by omega, by omega, by go_num, (by first | rfl | rw [HS2E.out]), rfl, by omega, (fun h => by cases h), hide (fun _ => ⟨HS2D.out, by omega⟩), hide (fun h => by cases h), hb.trans (Below.mono (hb1.trans (show Below wr.heap.size w1 _ by go_grown)) hb.size), HE⟩
                  · have := hlk rfl; omega
                · obtain ⟨k, rfl⟩ : ∃ j, k = j + 1 := ⟨k - 1, by omega⟩
                  cases lg
                  · obtain ⟨hSd, hSz⟩ := HS.out rfl
                    have hjp : jP (k + 1) (l.getD (k + 1) []) = [l.getD (k + 1) []] := by unfold jP; rw [HSTOP.out]; simp
                    obtain ⟨S1, hS1⟩ : ∃ x, x = S := ⟨_, rfl⟩
                    have hS1z : S1.size ≤ 8001 := by rw [hS1]; exact hS
                    have hS1d : S1.data.toList ++ s.data.toList = (acc ++ jP (k + 1) (l.getD (k + 1) [])).flatten := by rw [hjp, hS1, hSd, HSX.out]; simp
                    clear hSd hjp
                    subst hS1
                    have hs1l : S1.data.toList.length = S1.size := by simp
                    have hssl : s.data.toList.length = s.size := by simp
                    have hfl := congrArg List.length hS1d
                    rw [List.length_append] at hfl
                    have HS1D := hide hS1d
                    have HE := hide he
                    clear hS1d he HR HS HLG HJ HSX HS2 HX HOK HSTOP
                    by_cases hov : 8000 < S1.size + s.size
                    · have HLN := hide (show 8000 < (acc ++ jP (k + 1) (l.getD (k + 1) [])).flatten.length by omega)
                      clear hs1l hssl hfl
                      go_wp2_with (first | (go_at_call 21; refine (rclass_at _ _ HC.out _).mono ?_; rintro e w' ⟨rfl, rfl⟩) | (go_at_call 22; refine (HWD.out _ (by go_grown)).mono ?_; rintro e w' ⟨rfl, rfl⟩) | (go_at_call 23; refine (HNM.out _ (by go_grown)).mono ?_; rintro e w' ⟨rfl, rfl⟩))
                      go_roundg (gk - 1)
                      case measure => omega
                      case rel => exact ⟨k + 1 + 1, f, S1, true, acc ++ jP (k + 1) (l.getD (k + 1) []), by omega, by omega, by go_num, rfl, rfl, hS1z, fun _ => by omega, hide (fun h => by cases h), hide (fun _ => HLN.out), hb.trans (Below.mono (hb1.trans (show Below wr.heap.size w1 _ by go_grown)) hb.size), HE⟩
                    · obtain ⟨S2, hS2e⟩ : ∃ x, x = S1 ++ s := ⟨_, rfl⟩
                      have hadd2 := run_addS S1 s S2 hS2e (by omega)
                      have hS2z : S2.size = S1.size + s.size := by rw [hS2e]; simp
                      have hS2d : S2.data.toList = (acc ++ jP (k + 1) (l.getD (k + 1) [])).flatten := by rw [← HS1D.out, hS2e]; simp
                      have HS2D := hide hS2d
                      have HS2E := hide hS2e
                      clear hS2e hS2d hs1l hssl hfl
                      go_wp2_with (first | (go_at_call 21; refine (rclass_at _ _ HC.out _).mono ?_; rintro e w' ⟨rfl, rfl⟩) | (go_at_call 22; refine (HWD.out _ (by go_grown)).mono ?_; rintro e w' ⟨rfl, rfl⟩) | (go_at_call 23; refine (HNM.out _ (by go_grown)).mono ?_; rintro e w' ⟨rfl, rfl⟩))
                      go_roundg (gk - 1)
                      case measure => omega
                      case rel => exact ⟨k + 1 + 1, f, S2, false, acc ++ jP (k + 1) (l.getD (k + 1) []), by omega, by omega, by go_num, (by first | rfl | rw [HS2E.out]), rfl, by omega, (fun h => by cases h), hide (fun _ => ⟨HS2D.out, by omega⟩), hide (fun h => by cases h), hb.trans (Below.mono (hb1.trans (show Below wr.heap.size w1 _ by go_grown)) hb.size), HE⟩
                  · have hlg := HLG.out rfl
                    have HLN := hide (show 8000 < (acc ++ jP (k + 1) (l.getD (k + 1) [])).flatten.length by rw [List.flatten_append, List.length_append]; omega)
                    have HE := hide he
                    clear hlg he HR HS HLG HJ HSX HS2 HX HOK HSTOP
                    by_cases hov : 8000 < S.size + s.size
                    all_goals
                      go_wp2_with (first | (go_at_call 21; refine (rclass_at _ _ HC.out _).mono ?_; rintro e w' ⟨rfl, rfl⟩) | (go_at_call 22; refine (HWD.out _ (by go_grown)).mono ?_; rintro e w' ⟨rfl, rfl⟩) | (go_at_call 23; refine (HNM.out _ (by go_grown)).mono ?_; rintro e w' ⟨rfl, rfl⟩))
                      go_roundg (gk - 1)
                      case measure => omega
                      case rel => exact ⟨k + 1 + 1, f, S, true, acc ++ jP (k + 1) (l.getD (k + 1) []), by omega, by omega, by go_num, rfl, rfl, hS, fun _ => by omega, hide (fun h => by cases h), hide (fun _ => HLN.out), hb.trans (Below.mono (hb1.trans (show Below wr.heap.size w1 _ by go_grown)) hb.size), HE⟩
              · have n6 : (q' == 6) = false := by simp [h6]
                have HSTOP : Hid (jS (l.getD k []) = false) := hide (by rw [HST.out]; simp [h6])
                clear HST
                by_cases hs1 : q' = 1
                · have HOK : Hid (okW s.data.toList = true) := hide (by rw [hok]; simp [hs1])
                  clear hok HWD HNM HM h6
                  subst hs1
                  have he := HR.out.trans (jGo_ok hkl (jF_ok.2 (by rw [HSX.out, HOK.out])))
                  rcases Nat.eq_zero_or_pos k with hk0 | hk0
                  · subst hk0
                    cases lg
                    · obtain ⟨hSd, hSz⟩ := HS.out rfl
                      have hjp : jP 0 (l.getD 0 []) = [l.getD 0 []] := by unfold jP; simp
                      obtain ⟨S1, hS1⟩ : ∃ x, x = S := ⟨_, rfl⟩
                      have hS1z : S1.size ≤ 8001 := by rw [hS1]; exact hS
                      have hS1d : S1.data.toList ++ s.data.toList = (acc ++ jP 0 (l.getD 0 [])).flatten := by rw [hjp, hS1, hSd, HSX.out]; simp
                      clear hSd hjp
                      subst hS1
                      have hs1l : S1.data.toList.length = S1.size := by simp
                      have hssl : s.data.toList.length = s.size := by simp
                      have hfl := congrArg List.length hS1d
                      rw [List.length_append] at hfl
                      have HS1D := hide hS1d
                      have HE := hide he
                      clear hS1d he HR HS HLG HJ HSX HS2 HX HOK HSTOP
                      by_cases hov : 8000 < S1.size + s.size
                      · have HLN := hide (show 8000 < (acc ++ jP 0 (l.getD 0 [])).flatten.length by omega)
                        clear hs1l hssl hfl
                        go_wp2_with (first | (go_at_call 21; refine (rclass_at _ _ HC.out _).mono ?_; rintro e w' ⟨rfl, rfl⟩) | (go_at_call 22; refine (HWD.out _ (by go_grown)).mono ?_; rintro e w' ⟨rfl, rfl⟩) | (go_at_call 23; refine (HNM.out _ (by go_grown)).mono ?_; rintro e w' ⟨rfl, rfl⟩))
                        go_roundg (gk - 1)
                        case measure => omega
                        case rel => exact ⟨1, f, S1, true, acc ++ jP 0 (l.getD 0 []), by omega, by omega, by go_num, rfl, rfl, hS1z, fun _ => by omega, hide (fun h => by cases h), hide (fun _ => HLN.out), hb.trans (Below.mono (hb1.trans (show Below wr.heap.size w1 _ by go_grown)) hb.size), HE⟩
                      · obtain ⟨S2, hS2e⟩ : ∃ x, x = S1 ++ s := ⟨_, rfl⟩
                        have hadd2 := run_addS S1 s S2 hS2e (by omega)
                        have hS2z : S2.size = S1.size + s.size := by rw [hS2e]; simp
                        have hS2d : S2.data.toList = (acc ++ jP 0 (l.getD 0 [])).flatten := by rw [← HS1D.out, hS2e]; simp
                        have HS2D := hide hS2d
                        have HS2E := hide hS2e
                        clear hS2e hS2d hs1l hssl hfl
                        go_wp2_with (first | (go_at_call 21; refine (rclass_at _ _ HC.out _).mono ?_; rintro e w' ⟨rfl, rfl⟩) | (go_at_call 22; refine (HWD.out _ (by go_grown)).mono ?_; rintro e w' ⟨rfl, rfl⟩) | (go_at_call 23; refine (HNM.out _ (by go_grown)).mono ?_; rintro e w' ⟨rfl, rfl⟩))
                        go_roundg (gk - 1)
                        case measure => omega
                        case rel => exact ⟨1, f, S2, false, acc ++ jP 0 (l.getD 0 []), by omega, by omega, by go_num, (by first | rfl | rw [HS2E.out]), rfl, by omega, (fun h => by cases h), hide (fun _ => ⟨HS2D.out, by omega⟩), hide (fun h => by cases h), hb.trans (Below.mono (hb1.trans (show Below wr.heap.size w1 _ by go_grown)) hb.size), HE⟩
                    · have := hlk rfl; omega
                  · obtain ⟨k, rfl⟩ : ∃ j, k = j + 1 := ⟨k - 1, by omega⟩
                    cases lg
                    · obtain ⟨hSd, hSz⟩ := HS.out rfl
                      have hjp : jP (k + 1) (l.getD (k + 1) []) = [[32], l.getD (k + 1) []] := by unfold jP; rw [HSTOP.out]; simp
                      have hS1d : S.data.toList ++ [32] ++ s.data.toList = (acc ++ jP (k + 1) (l.getD (k + 1) [])).flatten := by rw [hjp, HSX.out]; simp [hSd]
                      clear hSd hjp
                      have hs1l : S.data.toList.length = S.size := by simp
                      have hssl : s.data.toList.length = s.size := by simp
                      have hfl := congrArg List.length hS1d
                      simp only [List.length_append, List.length_cons, List.length_nil] at hfl
                      have HS1D := hide hS1d
                      have HE := hide he
                      clear hS1d he HR HS HLG HJ HSX HS2 HX HOK HSTOP
                      by_cases hov : 8000 < S.size + 1 + s.size
                      · have HLN := hide (show 8000 < (acc ++ jP (k + 1) (l.getD (k + 1) [])).flatten.length by omega)
                        clear hs1l hssl hfl
                        go_wp2_with (first | (go_at_call 21; refine (rclass_at _ _ HC.out _).mono ?_; rintro e w' ⟨rfl, rfl⟩) | (go_at_call 22; refine (HWD.out _ (by go_grown)).mono ?_; rintro e w' ⟨rfl, rfl⟩) | (go_at_call 23; refine (HNM.out _ (by go_grown)).mono ?_; rintro e w' ⟨rfl, rfl⟩))
                        go_roundg (gk - 1)
                        case measure => omega
                        case rel => exact ⟨k + 1 + 1, f, S ++ ⟨#[32]⟩, true, acc ++ jP (k + 1) (l.getD (k + 1) []), by omega, by omega, by go_num, rfl, rfl, (by have h1z : (⟨#[32]⟩ : ByteArray).size = 1 := rfl; simp; omega), fun _ => by omega, hide (fun h => by cases h), hide (fun _ => HLN.out), hb.trans (Below.mono (hb1.trans (show Below wr.heap.size w1 _ by go_grown)) hb.size), HE⟩
                      · have hS2d : (S ++ ⟨#[32]⟩ ++ s).data.toList = (acc ++ jP (k + 1) (l.getD (k + 1) [])).flatten := by rw [← HS1D.out]; simp
                        have HS2D := hide hS2d
                        clear hS2d hs1l hssl hfl
                        go_wp2_with (first | (go_at_call 21; refine (rclass_at _ _ HC.out _).mono ?_; rintro e w' ⟨rfl, rfl⟩) | (go_at_call 22; refine (HWD.out _ (by go_grown)).mono ?_; rintro e w' ⟨rfl, rfl⟩) | (go_at_call 23; refine (HNM.out _ (by go_grown)).mono ?_; rintro e w' ⟨rfl, rfl⟩))
                        go_roundg (gk - 1)
                        case measure => omega
                        case rel => exact ⟨k + 1 + 1, f, S ++ ⟨#[32]⟩ ++ s, false, acc ++ jP (k + 1) (l.getD (k + 1) []), by omega, by omega, by go_num, (by first | rfl | simp [ByteArray.append_assoc]), rfl, (by have h1z : (⟨#[32]⟩ : ByteArray).size = 1 := rfl; simp; omega), (fun h => by cases h), hide (fun _ => ⟨HS2D.out, by have h1z : (⟨#[32]⟩ : ByteArray).size = 1 := rfl; simp; omega⟩), hide (fun h => by cases h), hb.trans (Below.mono (hb1.trans (show Below wr.heap.size w1 _ by go_grown)) hb.size), HE⟩
                    · have hlg := HLG.out rfl
                      have HLN := hide (show 8000 < (acc ++ jP (k + 1) (l.getD (k + 1) [])).flatten.length by rw [List.flatten_append, List.length_append]; omega)
                      have HE := hide he
                      clear hlg he HR HS HLG HJ HSX HS2 HX HOK HSTOP
                      by_cases hov : 8000 < S.size + s.size
                      all_goals
                        go_wp2_with (first | (go_at_call 21; refine (rclass_at _ _ HC.out _).mono ?_; rintro e w' ⟨rfl, rfl⟩) | (go_at_call 22; refine (HWD.out _ (by go_grown)).mono ?_; rintro e w' ⟨rfl, rfl⟩) | (go_at_call 23; refine (HNM.out _ (by go_grown)).mono ?_; rintro e w' ⟨rfl, rfl⟩))
                        go_roundg (gk - 1)
                        case measure => omega
                        case rel => exact ⟨k + 1 + 1, f, S, true, acc ++ jP (k + 1) (l.getD (k + 1) []), by omega, by omega, by go_num, rfl, rfl, hS, fun _ => by omega, hide (fun h => by cases h), hide (fun _ => HLN.out), hb.trans (Below.mono (hb1.trans (show Below wr.heap.size w1 _ by go_grown)) hb.size), HE⟩
                · have n1 : (q' == 1) = false := by simp [hs1]
                  by_cases hs3 : q' = 3
                  · have HOK : Hid (okW s.data.toList = true) := hide (by rw [hok]; simp [hs3])
                    clear hok HWD HNM HM h6
                    subst hs3
                    have he := HR.out.trans (jGo_ok hkl (jF_ok.2 (by rw [HSX.out, HOK.out])))
                    rcases Nat.eq_zero_or_pos k with hk0 | hk0
                    · subst hk0
                      cases lg
                      · obtain ⟨hSd, hSz⟩ := HS.out rfl
                        have hjp : jP 0 (l.getD 0 []) = [l.getD 0 []] := by unfold jP; simp
                        obtain ⟨S1, hS1⟩ : ∃ x, x = S := ⟨_, rfl⟩
                        have hS1z : S1.size ≤ 8001 := by rw [hS1]; exact hS
                        have hS1d : S1.data.toList ++ s.data.toList = (acc ++ jP 0 (l.getD 0 [])).flatten := by rw [hjp, hS1, hSd, HSX.out]; simp
                        clear hSd hjp
                        subst hS1
                        have hs1l : S1.data.toList.length = S1.size := by simp
                        have hssl : s.data.toList.length = s.size := by simp
                        have hfl := congrArg List.length hS1d
                        rw [List.length_append] at hfl
                        have HS1D := hide hS1d
                        have HE := hide he
                        clear hS1d he HR HS HLG HJ HSX HS2 HX HOK HSTOP
                        by_cases hov : 8000 < S1.size + s.size
                        · have HLN := hide (show 8000 < (acc ++ jP 0 (l.getD 0 [])).flatten.length by omega)
                          clear hs1l hssl hfl
                          go_wp2_with (first | (go_at_call 21; refine (rclass_at _ _ HC.out _).mono ?_; rintro e w' ⟨rfl, rfl⟩) | (go_at_call 22; refine (HWD.out _ (by go_grown)).mono ?_; rintro e w' ⟨rfl, rfl⟩) | (go_at_call 23; refine (HNM.out _ (by go_grown)).mono ?_; rintro e w' ⟨rfl, rfl⟩))
                          go_roundg (gk - 1)
                          case measure => omega
                          case rel => exact ⟨1, f, S1, true, acc ++ jP 0 (l.getD 0 []), by omega, by omega, by go_num, rfl, rfl, hS1z, fun _ => by omega, hide (fun h => by cases h), hide (fun _ => HLN.out), hb.trans (Below.mono (hb1.trans (show Below wr.heap.size w1 _ by go_grown)) hb.size), HE⟩
                        · obtain ⟨S2, hS2e⟩ : ∃ x, x = S1 ++ s := ⟨_, rfl⟩
                          have hadd2 := run_addS S1 s S2 hS2e (by omega)
                          have hS2z : S2.size = S1.size + s.size := by rw [hS2e]; simp
                          have hS2d : S2.data.toList = (acc ++ jP 0 (l.getD 0 [])).flatten := by rw [← HS1D.out, hS2e]; simp
                          have HS2D := hide hS2d
                          have HS2E := hide hS2e
                          clear hS2e hS2d hs1l hssl hfl
                          go_wp2_with (first | (go_at_call 21; refine (rclass_at _ _ HC.out _).mono ?_; rintro e w' ⟨rfl, rfl⟩) | (go_at_call 22; refine (HWD.out _ (by go_grown)).mono ?_; rintro e w' ⟨rfl, rfl⟩) | (go_at_call 23; refine (HNM.out _ (by go_grown)).mono ?_; rintro e w' ⟨rfl, rfl⟩))
                          go_roundg (gk - 1)
                          case measure => omega
                          case rel => exact ⟨1, f, S2, false, acc ++ jP 0 (l.getD 0 []), by omega, by omega, by go_num, (by first | rfl | rw [HS2E.out]), rfl, by omega, (fun h => by cases h), hide (fun _ => ⟨HS2D.out, by omega⟩), hide (fun h => by cases h), hb.trans (Below.mono (hb1.trans (show Below wr.heap.size w1 _ by go_grown)) hb.size), HE⟩
                      · have := hlk rfl; omega
                    · obtain ⟨k, rfl⟩ : ∃ j, k = j + 1 := ⟨k - 1, by omega⟩
                      cases lg
                      · obtain ⟨hSd, hSz⟩ := HS.out rfl
                        have hjp : jP (k + 1) (l.getD (k + 1) []) = [[32], l.getD (k + 1) []] := by unfold jP; rw [HSTOP.out]; simp
                        have hS1d : S.data.toList ++ [32] ++ s.data.toList = (acc ++ jP (k + 1) (l.getD (k + 1) [])).flatten := by rw [hjp, HSX.out]; simp [hSd]
                        clear hSd hjp
                        have hs1l : S.data.toList.length = S.size := by simp
                        have hssl : s.data.toList.length = s.size := by simp
                        have hfl := congrArg List.length hS1d
                        simp only [List.length_append, List.length_cons, List.length_nil] at hfl
                        have HS1D := hide hS1d
                        have HE := hide he
                        clear hS1d he HR HS HLG HJ HSX HS2 HX HOK HSTOP
                        by_cases hov : 8000 < S.size + 1 + s.size
                        · have HLN := hide (show 8000 < (acc ++ jP (k + 1) (l.getD (k + 1) [])).flatten.length by omega)
                          clear hs1l hssl hfl
                          go_wp2_with (first | (go_at_call 21; refine (rclass_at _ _ HC.out _).mono ?_; rintro e w' ⟨rfl, rfl⟩) | (go_at_call 22; refine (HWD.out _ (by go_grown)).mono ?_; rintro e w' ⟨rfl, rfl⟩) | (go_at_call 23; refine (HNM.out _ (by go_grown)).mono ?_; rintro e w' ⟨rfl, rfl⟩))
                          go_roundg (gk - 1)
                          case measure => omega
                          case rel => exact ⟨k + 1 + 1, f, S ++ ⟨#[32]⟩, true, acc ++ jP (k + 1) (l.getD (k + 1) []), by omega, by omega, by go_num, rfl, rfl, (by have h1z : (⟨#[32]⟩ : ByteArray).size = 1 := rfl; simp; omega), fun _ => by omega, hide (fun h => by cases h), hide (fun _ => HLN.out), hb.trans (Below.mono (hb1.trans (show Below wr.heap.size w1 _ by go_grown)) hb.size), HE⟩
                        · have hS2d : (S ++ ⟨#[32]⟩ ++ s).data.toList = (acc ++ jP (k + 1) (l.getD (k + 1) [])).flatten := by rw [← HS1D.out]; simp
                          have HS2D := hide hS2d
                          clear hS2d hs1l hssl hfl
                          go_wp2_with (first | (go_at_call 21; refine (rclass_at _ _ HC.out _).mono ?_; rintro e w' ⟨rfl, rfl⟩) | (go_at_call 22; refine (HWD.out _ (by go_grown)).mono ?_; rintro e w' ⟨rfl, rfl⟩) | (go_at_call 23; refine (HNM.out _ (by go_grown)).mono ?_; rintro e w' ⟨rfl, rfl⟩))
                          go_roundg (gk - 1)
                          case measure => omega
                          case rel => exact ⟨k + 1 + 1, f, S ++ ⟨#[32]⟩ ++ s, false, acc ++ jP (k + 1) (l.getD (k + 1) []), by omega, by omega, by go_num, (by first | rfl | simp [ByteArray.append_assoc]), rfl, (by have h1z : (⟨#[32]⟩ : ByteArray).size = 1 := rfl; simp; omega), (fun h => by cases h), hide (fun _ => ⟨HS2D.out, by have h1z : (⟨#[32]⟩ : ByteArray).size = 1 := rfl; simp; omega⟩), hide (fun h => by cases h), hb.trans (Below.mono (hb1.trans (show Below wr.heap.size w1 _ by go_grown)) hb.size), HE⟩
                      · have hlg := HLG.out rfl
                        have HLN := hide (show 8000 < (acc ++ jP (k + 1) (l.getD (k + 1) [])).flatten.length by rw [List.flatten_append, List.length_append]; omega)
                        have HE := hide he
                        clear hlg he HR HS HLG HJ HSX HS2 HX HOK HSTOP
                        by_cases hov : 8000 < S.size + s.size
                        all_goals
                          go_wp2_with (first | (go_at_call 21; refine (rclass_at _ _ HC.out _).mono ?_; rintro e w' ⟨rfl, rfl⟩) | (go_at_call 22; refine (HWD.out _ (by go_grown)).mono ?_; rintro e w' ⟨rfl, rfl⟩) | (go_at_call 23; refine (HNM.out _ (by go_grown)).mono ?_; rintro e w' ⟨rfl, rfl⟩))
                          go_roundg (gk - 1)
                          case measure => omega
                          case rel => exact ⟨k + 1 + 1, f, S, true, acc ++ jP (k + 1) (l.getD (k + 1) []), by omega, by omega, by go_num, rfl, rfl, hS, fun _ => by omega, hide (fun h => by cases h), hide (fun _ => HLN.out), hb.trans (Below.mono (hb1.trans (show Below wr.heap.size w1 _ by go_grown)) hb.size), HE⟩
                  · have n3 : (q' == 3) = false := by simp [hs3]
                    simp only [h6, hs1, hs3, decide_false, Bool.and_false, Bool.or_false, Bool.false_or] at hok
                    have HOK0 := hide hok
                    clear hok h6 hs1 hs3
                    cases hwB : wordB ps
                    · rw [hwB] at HWD
                      cases hnB : numB ps
                      · rw [hnB] at HNM
                        have HOK : Hid (okW s.data.toList = false) := hide (by rw [HOK0.out, hwB, hnB]; rfl)
                        clear hwB hnB
                        have HE := hide (show joinR l = ((5, (k : Int)), []) by
                          have hj : jF (l.getD k []) = 5 := by unfold jF; rw [if_neg (by omega), if_neg (by rw [HSX.out, HOK.out]; simp)]
                          have he := HR.out.trans (jGo_bad hkl (by rw [hj]; decide))
                          rw [hj] at he
                          rw [HJ.out, he]; simp)
                        clear HR
                        go_wp2_with (first | (go_at_call 21; refine (rclass_at _ _ HC.out _).mono ?_; rintro e w' ⟨rfl, rfl⟩) | (go_at_call 22; refine (HWD.out _ (by go_grown)).mono ?_; rintro e w' ⟨rfl, rfl⟩) | (go_at_call 23; refine (HNM.out _ (by go_grown)).mono ?_; rintro e w' ⟨rfl, rfl⟩))
                        refine (rfault_any _ _ _).mono ?_
                        rintro e w5 ⟨rfl, hb5⟩
                        have hbx : Below wr.heap.size wr w5 := hb1.trans (Below.trans (show Below wr.heap.size w1 _ by go_grown) (hb5.mono (by simp; omega)))
                        have hz5 : w.heap.size < w5.heap.size := by have := hbx.size; omega
                        have q0 := keep_cell hbx q0 hzc
                        have q1 := keep_cell hbx q1 hzc
                        have f0 := keep_free hbx f0 hzc
                        have f1 := keep_free hbx f1 hzc
                        have hbw5 : Below w.heap.size w w5 := hbwc.trans (hbx.mono hbwc.size)
                        clear hb5 hbx
                        go_wp2
                        rw [HE.out]
                        exact bodyPost_ret (v := .tuple #[.string ⟨#[]⟩, .agg #[.int .i64 5, .int .i64 k]]) (by simp [results, Tryd.results10, go_sem, q0, q1, f0, f1, hz5]) rfl ⟨rfl, by go_grown⟩
                      · rw [hnB] at HNM
                        have HOK : Hid (okW s.data.toList = true) := hide (by rw [HOK0.out, hwB, hnB]; rfl)
                        clear hwB hnB HOK0
                        have he := HR.out.trans (jGo_ok hkl (jF_ok.2 (by rw [HSX.out, HOK.out])))
                        rcases Nat.eq_zero_or_pos k with hk0 | hk0
                        · subst hk0
                          cases lg
                          · obtain ⟨hSd, hSz⟩ := HS.out rfl
                            have hjp : jP 0 (l.getD 0 []) = [l.getD 0 []] := by unfold jP; simp
                            obtain ⟨S1, hS1⟩ : ∃ x, x = S := ⟨_, rfl⟩
                            have hS1z : S1.size ≤ 8001 := by rw [hS1]; exact hS
                            have hS1d : S1.data.toList ++ s.data.toList = (acc ++ jP 0 (l.getD 0 [])).flatten := by rw [hjp, hS1, hSd, HSX.out]; simp
                            clear hSd hjp
                            subst hS1
                            have hs1l : S1.data.toList.length = S1.size := by simp
                            have hssl : s.data.toList.length = s.size := by simp
                            have hfl := congrArg List.length hS1d
                            rw [List.length_append] at hfl
                            have HS1D := hide hS1d
                            have HE := hide he
                            clear hS1d he HR HS HLG HJ HSX HS2 HX HOK HSTOP
                            by_cases hov : 8000 < S1.size + s.size
                            · have HLN := hide (show 8000 < (acc ++ jP 0 (l.getD 0 [])).flatten.length by omega)
                              clear hs1l hssl hfl
                              go_wp2_with (first | (go_at_call 21; refine (rclass_at _ _ HC.out _).mono ?_; rintro e w' ⟨rfl, rfl⟩) | (go_at_call 22; refine (HWD.out _ (by go_grown)).mono ?_; rintro e w' ⟨rfl, rfl⟩) | (go_at_call 23; refine (HNM.out _ (by go_grown)).mono ?_; rintro e w' ⟨rfl, rfl⟩))
                              go_roundg (gk - 1)
                              case measure => omega
                              case rel => exact ⟨1, f, S1, true, acc ++ jP 0 (l.getD 0 []), by omega, by omega, by go_num, rfl, rfl, hS1z, fun _ => by omega, hide (fun h => by cases h), hide (fun _ => HLN.out), hb.trans (Below.mono (hb1.trans (show Below wr.heap.size w1 _ by go_grown)) hb.size), HE⟩
                            · obtain ⟨S2, hS2e⟩ : ∃ x, x = S1 ++ s := ⟨_, rfl⟩
                              have hadd2 := run_addS S1 s S2 hS2e (by omega)
                              have hS2z : S2.size = S1.size + s.size := by rw [hS2e]; simp
                              have hS2d : S2.data.toList = (acc ++ jP 0 (l.getD 0 [])).flatten := by rw [← HS1D.out, hS2e]; simp
                              have HS2D := hide hS2d
                              have HS2E := hide hS2e
                              clear hS2e hS2d hs1l hssl hfl
                              go_wp2_with (first | (go_at_call 21; refine (rclass_at _ _ HC.out _).mono ?_; rintro e w' ⟨rfl, rfl⟩) | (go_at_call 22; refine (HWD.out _ (by go_grown)).mono ?_; rintro e w' ⟨rfl, rfl⟩) | (go_at_call 23; refine (HNM.out _ (by go_grown)).mono ?_; rintro e w' ⟨rfl, rfl⟩))
                              go_roundg (gk - 1)
                              case measure => omega
                              case rel => exact ⟨1, f, S2, false, acc ++ jP 0 (l.getD 0 []), by omega, by omega, by go_num, (by first | rfl | rw [HS2E.out]), rfl, by omega, (fun h => by cases h), hide (fun _ => ⟨HS2D.out, by omega⟩), hide (fun h => by cases h), hb.trans (Below.mono (hb1.trans (show Below wr.heap.size w1 _ by go_grown)) hb.size), HE⟩
                          · have := hlk rfl; omega
                        · obtain ⟨k, rfl⟩ : ∃ j, k = j + 1 := ⟨k - 1, by omega⟩
                          cases lg
                          · obtain ⟨hSd, hSz⟩ := HS.out rfl
                            have hjp : jP (k + 1) (l.getD (k + 1) []) = [[32], l.getD (k + 1) []] := by unfold jP; rw [HSTOP.out]; simp
                            have hS1d : S.data.toList ++ [32] ++ s.data.toList = (acc ++ jP (k + 1) (l.getD (k + 1) [])).flatten := by rw [hjp, HSX.out]; simp [hSd]
                            clear hSd hjp
                            have hs1l : S.data.toList.length = S.size := by simp
                            have hssl : s.data.toList.length = s.size := by simp
                            have hfl := congrArg List.length hS1d
                            simp only [List.length_append, List.length_cons, List.length_nil] at hfl
                            have HS1D := hide hS1d
                            have HE := hide he
                            clear hS1d he HR HS HLG HJ HSX HS2 HX HOK HSTOP
                            by_cases hov : 8000 < S.size + 1 + s.size
                            · have HLN := hide (show 8000 < (acc ++ jP (k + 1) (l.getD (k + 1) [])).flatten.length by omega)
                              clear hs1l hssl hfl
                              go_wp2_with (first | (go_at_call 21; refine (rclass_at _ _ HC.out _).mono ?_; rintro e w' ⟨rfl, rfl⟩) | (go_at_call 22; refine (HWD.out _ (by go_grown)).mono ?_; rintro e w' ⟨rfl, rfl⟩) | (go_at_call 23; refine (HNM.out _ (by go_grown)).mono ?_; rintro e w' ⟨rfl, rfl⟩))
                              go_roundg (gk - 1)
                              case measure => omega
                              case rel => exact ⟨k + 1 + 1, f, S ++ ⟨#[32]⟩, true, acc ++ jP (k + 1) (l.getD (k + 1) []), by omega, by omega, by go_num, rfl, rfl, (by have h1z : (⟨#[32]⟩ : ByteArray).size = 1 := rfl; simp; omega), fun _ => by omega, hide (fun h => by cases h), hide (fun _ => HLN.out), hb.trans (Below.mono (hb1.trans (show Below wr.heap.size w1 _ by go_grown)) hb.size), HE⟩
                            · have hS2d : (S ++ ⟨#[32]⟩ ++ s).data.toList = (acc ++ jP (k + 1) (l.getD (k + 1) [])).flatten := by rw [← HS1D.out]; simp
                              have HS2D := hide hS2d
                              clear hS2d hs1l hssl hfl
                              go_wp2_with (first | (go_at_call 21; refine (rclass_at _ _ HC.out _).mono ?_; rintro e w' ⟨rfl, rfl⟩) | (go_at_call 22; refine (HWD.out _ (by go_grown)).mono ?_; rintro e w' ⟨rfl, rfl⟩) | (go_at_call 23; refine (HNM.out _ (by go_grown)).mono ?_; rintro e w' ⟨rfl, rfl⟩))
                              go_roundg (gk - 1)
                              case measure => omega
                              case rel => exact ⟨k + 1 + 1, f, S ++ ⟨#[32]⟩ ++ s, false, acc ++ jP (k + 1) (l.getD (k + 1) []), by omega, by omega, by go_num, (by first | rfl | simp [ByteArray.append_assoc]), rfl, (by have h1z : (⟨#[32]⟩ : ByteArray).size = 1 := rfl; simp; omega), (fun h => by cases h), hide (fun _ => ⟨HS2D.out, by have h1z : (⟨#[32]⟩ : ByteArray).size = 1 := rfl; simp; omega⟩), hide (fun h => by cases h), hb.trans (Below.mono (hb1.trans (show Below wr.heap.size w1 _ by go_grown)) hb.size), HE⟩
                          · have hlg := HLG.out rfl
                            have HLN := hide (show 8000 < (acc ++ jP (k + 1) (l.getD (k + 1) [])).flatten.length by rw [List.flatten_append, List.length_append]; omega)
                            have HE := hide he
                            clear hlg he HR HS HLG HJ HSX HS2 HX HOK HSTOP
                            by_cases hov : 8000 < S.size + s.size
                            all_goals
                              go_wp2_with (first | (go_at_call 21; refine (rclass_at _ _ HC.out _).mono ?_; rintro e w' ⟨rfl, rfl⟩) | (go_at_call 22; refine (HWD.out _ (by go_grown)).mono ?_; rintro e w' ⟨rfl, rfl⟩) | (go_at_call 23; refine (HNM.out _ (by go_grown)).mono ?_; rintro e w' ⟨rfl, rfl⟩))
                              go_roundg (gk - 1)
                              case measure => omega
                              case rel => exact ⟨k + 1 + 1, f, S, true, acc ++ jP (k + 1) (l.getD (k + 1) []), by omega, by omega, by go_num, rfl, rfl, hS, fun _ => by omega, hide (fun h => by cases h), hide (fun _ => HLN.out), hb.trans (Below.mono (hb1.trans (show Below wr.heap.size w1 _ by go_grown)) hb.size), HE⟩
                    · rw [hwB] at HWD
                      have HOK : Hid (okW s.data.toList = true) := hide (by rw [HOK0.out, hwB]; rfl)
                      clear hwB HOK0 HNM
                      have he := HR.out.trans (jGo_ok hkl (jF_ok.2 (by rw [HSX.out, HOK.out])))
                      rcases Nat.eq_zero_or_pos k with hk0 | hk0
                      · subst hk0
                        cases lg
                        · obtain ⟨hSd, hSz⟩ := HS.out rfl
                          have hjp : jP 0 (l.getD 0 []) = [l.getD 0 []] := by unfold jP; simp
                          obtain ⟨S1, hS1⟩ : ∃ x, x = S := ⟨_, rfl⟩
                          have hS1z : S1.size ≤ 8001 := by rw [hS1]; exact hS
                          have hS1d : S1.data.toList ++ s.data.toList = (acc ++ jP 0 (l.getD 0 [])).flatten := by rw [hjp, hS1, hSd, HSX.out]; simp
                          clear hSd hjp
                          subst hS1
                          have hs1l : S1.data.toList.length = S1.size := by simp
                          have hssl : s.data.toList.length = s.size := by simp
                          have hfl := congrArg List.length hS1d
                          rw [List.length_append] at hfl
                          have HS1D := hide hS1d
                          have HE := hide he
                          clear hS1d he HR HS HLG HJ HSX HS2 HX HOK HSTOP
                          by_cases hov : 8000 < S1.size + s.size
                          · have HLN := hide (show 8000 < (acc ++ jP 0 (l.getD 0 [])).flatten.length by omega)
                            clear hs1l hssl hfl
                            go_wp2_with (first | (go_at_call 21; refine (rclass_at _ _ HC.out _).mono ?_; rintro e w' ⟨rfl, rfl⟩) | (go_at_call 22; refine (HWD.out _ (by go_grown)).mono ?_; rintro e w' ⟨rfl, rfl⟩) | (go_at_call 23; refine (HNM.out _ (by go_grown)).mono ?_; rintro e w' ⟨rfl, rfl⟩))
                            go_roundg (gk - 1)
                            case measure => omega
                            case rel => exact ⟨1, f, S1, true, acc ++ jP 0 (l.getD 0 []), by omega, by omega, by go_num, rfl, rfl, hS1z, fun _ => by omega, hide (fun h => by cases h), hide (fun _ => HLN.out), hb.trans (Below.mono (hb1.trans (show Below wr.heap.size w1 _ by go_grown)) hb.size), HE⟩
                          · obtain ⟨S2, hS2e⟩ : ∃ x, x = S1 ++ s := ⟨_, rfl⟩
                            have hadd2 := run_addS S1 s S2 hS2e (by omega)
                            have hS2z : S2.size = S1.size + s.size := by rw [hS2e]; simp
                            have hS2d : S2.data.toList = (acc ++ jP 0 (l.getD 0 [])).flatten := by rw [← HS1D.out, hS2e]; simp
                            have HS2D := hide hS2d
                            have HS2E := hide hS2e
                            clear hS2e hS2d hs1l hssl hfl
                            go_wp2_with (first | (go_at_call 21; refine (rclass_at _ _ HC.out _).mono ?_; rintro e w' ⟨rfl, rfl⟩) | (go_at_call 22; refine (HWD.out _ (by go_grown)).mono ?_; rintro e w' ⟨rfl, rfl⟩) | (go_at_call 23; refine (HNM.out _ (by go_grown)).mono ?_; rintro e w' ⟨rfl, rfl⟩))
                            go_roundg (gk - 1)
                            case measure => omega
                            case rel => exact ⟨1, f, S2, false, acc ++ jP 0 (l.getD 0 []), by omega, by omega, by go_num, (by first | rfl | rw [HS2E.out]), rfl, by omega, (fun h => by cases h), hide (fun _ => ⟨HS2D.out, by omega⟩), hide (fun h => by cases h), hb.trans (Below.mono (hb1.trans (show Below wr.heap.size w1 _ by go_grown)) hb.size), HE⟩
                        · have := hlk rfl; omega
                      · obtain ⟨k, rfl⟩ : ∃ j, k = j + 1 := ⟨k - 1, by omega⟩
                        cases lg
                        · obtain ⟨hSd, hSz⟩ := HS.out rfl
                          have hjp : jP (k + 1) (l.getD (k + 1) []) = [[32], l.getD (k + 1) []] := by unfold jP; rw [HSTOP.out]; simp
                          have hS1d : S.data.toList ++ [32] ++ s.data.toList = (acc ++ jP (k + 1) (l.getD (k + 1) [])).flatten := by rw [hjp, HSX.out]; simp [hSd]
                          clear hSd hjp
                          have hs1l : S.data.toList.length = S.size := by simp
                          have hssl : s.data.toList.length = s.size := by simp
                          have hfl := congrArg List.length hS1d
                          simp only [List.length_append, List.length_cons, List.length_nil] at hfl
                          have HS1D := hide hS1d
                          have HE := hide he
                          clear hS1d he HR HS HLG HJ HSX HS2 HX HOK HSTOP
                          by_cases hov : 8000 < S.size + 1 + s.size
                          · have HLN := hide (show 8000 < (acc ++ jP (k + 1) (l.getD (k + 1) [])).flatten.length by omega)
                            clear hs1l hssl hfl
                            go_wp2_with (first | (go_at_call 21; refine (rclass_at _ _ HC.out _).mono ?_; rintro e w' ⟨rfl, rfl⟩) | (go_at_call 22; refine (HWD.out _ (by go_grown)).mono ?_; rintro e w' ⟨rfl, rfl⟩) | (go_at_call 23; refine (HNM.out _ (by go_grown)).mono ?_; rintro e w' ⟨rfl, rfl⟩))
                            go_roundg (gk - 1)
                            case measure => omega
                            case rel => exact ⟨k + 1 + 1, f, S ++ ⟨#[32]⟩, true, acc ++ jP (k + 1) (l.getD (k + 1) []), by omega, by omega, by go_num, rfl, rfl, (by have h1z : (⟨#[32]⟩ : ByteArray).size = 1 := rfl; simp; omega), fun _ => by omega, hide (fun h => by cases h), hide (fun _ => HLN.out), hb.trans (Below.mono (hb1.trans (show Below wr.heap.size w1 _ by go_grown)) hb.size), HE⟩
                          · have hS2d : (S ++ ⟨#[32]⟩ ++ s).data.toList = (acc ++ jP (k + 1) (l.getD (k + 1) [])).flatten := by rw [← HS1D.out]; simp
                            have HS2D := hide hS2d
                            clear hS2d hs1l hssl hfl
                            go_wp2_with (first | (go_at_call 21; refine (rclass_at _ _ HC.out _).mono ?_; rintro e w' ⟨rfl, rfl⟩) | (go_at_call 22; refine (HWD.out _ (by go_grown)).mono ?_; rintro e w' ⟨rfl, rfl⟩) | (go_at_call 23; refine (HNM.out _ (by go_grown)).mono ?_; rintro e w' ⟨rfl, rfl⟩))
                            go_roundg (gk - 1)
                            case measure => omega
                            case rel => exact ⟨k + 1 + 1, f, S ++ ⟨#[32]⟩ ++ s, false, acc ++ jP (k + 1) (l.getD (k + 1) []), by omega, by omega, by go_num, (by first | rfl | simp [ByteArray.append_assoc]), rfl, (by have h1z : (⟨#[32]⟩ : ByteArray).size = 1 := rfl; simp; omega), (fun h => by cases h), hide (fun _ => ⟨HS2D.out, by have h1z : (⟨#[32]⟩ : ByteArray).size = 1 := rfl; simp; omega⟩), hide (fun h => by cases h), hb.trans (Below.mono (hb1.trans (show Below wr.heap.size w1 _ by go_grown)) hb.size), HE⟩
                        · have hlg := HLG.out rfl
                          have HLN := hide (show 8000 < (acc ++ jP (k + 1) (l.getD (k + 1) [])).flatten.length by rw [List.flatten_append, List.length_append]; omega)
                          have HE := hide he
                          clear hlg he HR HS HLG HJ HSX HS2 HX HOK HSTOP
                          by_cases hov : 8000 < S.size + s.size
                          all_goals
                            go_wp2_with (first | (go_at_call 21; refine (rclass_at _ _ HC.out _).mono ?_; rintro e w' ⟨rfl, rfl⟩) | (go_at_call 22; refine (HWD.out _ (by go_grown)).mono ?_; rintro e w' ⟨rfl, rfl⟩) | (go_at_call 23; refine (HNM.out _ (by go_grown)).mono ?_; rintro e w' ⟨rfl, rfl⟩))
                            go_roundg (gk - 1)
                            case measure => omega
                            case rel => exact ⟨k + 1 + 1, f, S, true, acc ++ jP (k + 1) (l.getD (k + 1) []), by omega, by omega, by go_num, rfl, rfl, hS, fun _ => by omega, hide (fun h => by cases h), hide (fun _ => HLN.out), hb.trans (Below.mono (hb1.trans (show Below wr.heap.size w1 _ by go_grown)) hb.size), HE⟩
            · have hmb : ((m : Int) == 1) = false := by simp; omega
              simp only [hm1, decide_false, Bool.false_and, Bool.or_false, Bool.false_or] at hok
              have HOK0 := hide hok
              have HC := HM
              by_cases h6 : q = 6
              · have hwB := not_word (ps := ps) (by rw [← hq, h6]; decide)
                have hnB := not_num (ps := ps) (by rw [← hq, h6]; decide)
                rw [hwB] at HWD
                rw [hnB] at HNM
                have HOK : Hid (okW s.data.toList = false) := hide (by rw [HOK0.out, hwB, hnB]; rfl)
                clear hok h6 HST hrd1 hm1 hq hwB hnB HOK0
                have HE := hide (show joinR l = ((5, (k : Int)), []) by
                  have hj : jF (l.getD k []) = 5 := by unfold jF; rw [if_neg (by omega), if_neg (by rw [HSX.out, HOK.out]; simp)]
                  have he := HR.out.trans (jGo_bad hkl (by rw [hj]; decide))
                  rw [hj] at he
                  rw [HJ.out, he]; simp)
                clear HR
                go_wp2_with (first | (go_at_call 21; refine (rclass_at _ _ HC.out _).mono ?_; rintro e w' ⟨rfl, rfl⟩) | (go_at_call 22; refine (HWD.out _ (by go_grown)).mono ?_; rintro e w' ⟨rfl, rfl⟩) | (go_at_call 23; refine (HNM.out _ (by go_grown)).mono ?_; rintro e w' ⟨rfl, rfl⟩))
                refine (rfault_any _ _ _).mono ?_
                rintro e w5 ⟨rfl, hb5⟩
                have hbx : Below wr.heap.size wr w5 := hb1.trans (Below.trans (show Below wr.heap.size w1 _ by go_grown) (hb5.mono (by simp; omega)))
                have hz5 : w.heap.size < w5.heap.size := by have := hbx.size; omega
                have q0 := keep_cell hbx q0 hzc
                have q1 := keep_cell hbx q1 hzc
                have f0 := keep_free hbx f0 hzc
                have f1 := keep_free hbx f1 hzc
                have hbw5 : Below w.heap.size w w5 := hbwc.trans (hbx.mono hbwc.size)
                clear hb5 hbx
                go_wp2
                rw [HE.out]
                exact bodyPost_ret (v := .tuple #[.string ⟨#[]⟩, .agg #[.int .i64 5, .int .i64 k]]) (by simp [results, Tryd.results10, go_sem, q0, q1, f0, f1, hz5]) rfl ⟨rfl, by go_grown⟩
              · have HSTOP : Hid (jS (l.getD k []) = false) := hide (by rw [HST.out]; simp [h6])
                clear hok h6 HST hrd1 hm1 hq
                cases hwB : wordB ps
                · rw [hwB] at HWD
                  cases hnB : numB ps
                  · rw [hnB] at HNM
                    have HOK : Hid (okW s.data.toList = false) := hide (by rw [HOK0.out, hwB, hnB]; rfl)
                    clear hwB hnB
                    have HE := hide (show joinR l = ((5, (k : Int)), []) by
                      have hj : jF (l.getD k []) = 5 := by unfold jF; rw [if_neg (by omega), if_neg (by rw [HSX.out, HOK.out]; simp)]
                      have he := HR.out.trans (jGo_bad hkl (by rw [hj]; decide))
                      rw [hj] at he
                      rw [HJ.out, he]; simp)
                    clear HR
                    go_wp2_with (first | (go_at_call 21; refine (rclass_at _ _ HC.out _).mono ?_; rintro e w' ⟨rfl, rfl⟩) | (go_at_call 22; refine (HWD.out _ (by go_grown)).mono ?_; rintro e w' ⟨rfl, rfl⟩) | (go_at_call 23; refine (HNM.out _ (by go_grown)).mono ?_; rintro e w' ⟨rfl, rfl⟩))
                    refine (rfault_any _ _ _).mono ?_
                    rintro e w5 ⟨rfl, hb5⟩
                    have hbx : Below wr.heap.size wr w5 := hb1.trans (Below.trans (show Below wr.heap.size w1 _ by go_grown) (hb5.mono (by simp; omega)))
                    have hz5 : w.heap.size < w5.heap.size := by have := hbx.size; omega
                    have q0 := keep_cell hbx q0 hzc
                    have q1 := keep_cell hbx q1 hzc
                    have f0 := keep_free hbx f0 hzc
                    have f1 := keep_free hbx f1 hzc
                    have hbw5 : Below w.heap.size w w5 := hbwc.trans (hbx.mono hbwc.size)
                    clear hb5 hbx
                    go_wp2
                    rw [HE.out]
                    exact bodyPost_ret (v := .tuple #[.string ⟨#[]⟩, .agg #[.int .i64 5, .int .i64 k]]) (by simp [results, Tryd.results10, go_sem, q0, q1, f0, f1, hz5]) rfl ⟨rfl, by go_grown⟩
                  · rw [hnB] at HNM
                    have HOK : Hid (okW s.data.toList = true) := hide (by rw [HOK0.out, hwB, hnB]; rfl)
                    clear hwB hnB HOK0
                    have he := HR.out.trans (jGo_ok hkl (jF_ok.2 (by rw [HSX.out, HOK.out])))
                    rcases Nat.eq_zero_or_pos k with hk0 | hk0
                    · subst hk0
                      cases lg
                      · obtain ⟨hSd, hSz⟩ := HS.out rfl
                        have hjp : jP 0 (l.getD 0 []) = [l.getD 0 []] := by unfold jP; simp
                        obtain ⟨S1, hS1⟩ : ∃ x, x = S := ⟨_, rfl⟩
                        have hS1z : S1.size ≤ 8001 := by rw [hS1]; exact hS
                        have hS1d : S1.data.toList ++ s.data.toList = (acc ++ jP 0 (l.getD 0 [])).flatten := by rw [hjp, hS1, hSd, HSX.out]; simp
                        clear hSd hjp
                        subst hS1
                        have hs1l : S1.data.toList.length = S1.size := by simp
                        have hssl : s.data.toList.length = s.size := by simp
                        have hfl := congrArg List.length hS1d
                        rw [List.length_append] at hfl
                        have HS1D := hide hS1d
                        have HE := hide he
                        clear hS1d he HR HS HLG HJ HSX HS2 HX HOK HSTOP
                        by_cases hov : 8000 < S1.size + s.size
                        · have HLN := hide (show 8000 < (acc ++ jP 0 (l.getD 0 [])).flatten.length by omega)
                          clear hs1l hssl hfl
                          go_wp2_with (first | (go_at_call 21; refine (rclass_at _ _ HC.out _).mono ?_; rintro e w' ⟨rfl, rfl⟩) | (go_at_call 22; refine (HWD.out _ (by go_grown)).mono ?_; rintro e w' ⟨rfl, rfl⟩) | (go_at_call 23; refine (HNM.out _ (by go_grown)).mono ?_; rintro e w' ⟨rfl, rfl⟩))
                          go_roundg (gk - 1)
                          case measure => omega
                          case rel => exact ⟨1, f, S1, true, acc ++ jP 0 (l.getD 0 []), by omega, by omega, by go_num, rfl, rfl, hS1z, fun _ => by omega, hide (fun h => by cases h), hide (fun _ => HLN.out), hb.trans (Below.mono (hb1.trans (show Below wr.heap.size w1 _ by go_grown)) hb.size), HE⟩
                        · obtain ⟨S2, hS2e⟩ : ∃ x, x = S1 ++ s := ⟨_, rfl⟩
                          have hadd2 := run_addS S1 s S2 hS2e (by omega)
                          have hS2z : S2.size = S1.size + s.size := by rw [hS2e]; simp
                          have hS2d : S2.data.toList = (acc ++ jP 0 (l.getD 0 [])).flatten := by rw [← HS1D.out, hS2e]; simp
                          have HS2D := hide hS2d
                          have HS2E := hide hS2e
                          clear hS2e hS2d hs1l hssl hfl
                          go_wp2_with (first | (go_at_call 21; refine (rclass_at _ _ HC.out _).mono ?_; rintro e w' ⟨rfl, rfl⟩) | (go_at_call 22; refine (HWD.out _ (by go_grown)).mono ?_; rintro e w' ⟨rfl, rfl⟩) | (go_at_call 23; refine (HNM.out _ (by go_grown)).mono ?_; rintro e w' ⟨rfl, rfl⟩))
                          go_roundg (gk - 1)
                          case measure => omega
                          case rel => exact ⟨1, f, S2, false, acc ++ jP 0 (l.getD 0 []), by omega, by omega, by go_num, (by first | rfl | rw [HS2E.out]), rfl, by omega, (fun h => by cases h), hide (fun _ => ⟨HS2D.out, by omega⟩), hide (fun h => by cases h), hb.trans (Below.mono (hb1.trans (show Below wr.heap.size w1 _ by go_grown)) hb.size), HE⟩
                      · have := hlk rfl; omega
                    · obtain ⟨k, rfl⟩ : ∃ j, k = j + 1 := ⟨k - 1, by omega⟩
                      cases lg
                      · obtain ⟨hSd, hSz⟩ := HS.out rfl
                        have hjp : jP (k + 1) (l.getD (k + 1) []) = [[32], l.getD (k + 1) []] := by unfold jP; rw [HSTOP.out]; simp
                        have hS1d : S.data.toList ++ [32] ++ s.data.toList = (acc ++ jP (k + 1) (l.getD (k + 1) [])).flatten := by rw [hjp, HSX.out]; simp [hSd]
                        clear hSd hjp
                        have hs1l : S.data.toList.length = S.size := by simp
                        have hssl : s.data.toList.length = s.size := by simp
                        have hfl := congrArg List.length hS1d
                        simp only [List.length_append, List.length_cons, List.length_nil] at hfl
                        have HS1D := hide hS1d
                        have HE := hide he
                        clear hS1d he HR HS HLG HJ HSX HS2 HX HOK HSTOP
                        by_cases hov : 8000 < S.size + 1 + s.size
                        · have HLN := hide (show 8000 < (acc ++ jP (k + 1) (l.getD (k + 1) [])).flatten.length by omega)
                          clear hs1l hssl hfl
                          go_wp2_with (first | (go_at_call 21; refine (rclass_at _ _ HC.out _).mono ?_; rintro e w' ⟨rfl, rfl⟩) | (go_at_call 22; refine (HWD.out _ (by go_grown)).mono ?_; rintro e w' ⟨rfl, rfl⟩) | (go_at_call 23; refine (HNM.out _ (by go_grown)).mono ?_; rintro e w' ⟨rfl, rfl⟩))
                          go_roundg (gk - 1)
                          case measure => omega
                          case rel => exact ⟨k + 1 + 1, f, S ++ ⟨#[32]⟩, true, acc ++ jP (k + 1) (l.getD (k + 1) []), by omega, by omega, by go_num, rfl, rfl, (by have h1z : (⟨#[32]⟩ : ByteArray).size = 1 := rfl; simp; omega), fun _ => by omega, hide (fun h => by cases h), hide (fun _ => HLN.out), hb.trans (Below.mono (hb1.trans (show Below wr.heap.size w1 _ by go_grown)) hb.size), HE⟩
                        · have hS2d : (S ++ ⟨#[32]⟩ ++ s).data.toList = (acc ++ jP (k + 1) (l.getD (k + 1) [])).flatten := by rw [← HS1D.out]; simp
                          have HS2D := hide hS2d
                          clear hS2d hs1l hssl hfl
                          go_wp2_with (first | (go_at_call 21; refine (rclass_at _ _ HC.out _).mono ?_; rintro e w' ⟨rfl, rfl⟩) | (go_at_call 22; refine (HWD.out _ (by go_grown)).mono ?_; rintro e w' ⟨rfl, rfl⟩) | (go_at_call 23; refine (HNM.out _ (by go_grown)).mono ?_; rintro e w' ⟨rfl, rfl⟩))
                          go_roundg (gk - 1)
                          case measure => omega
                          case rel => exact ⟨k + 1 + 1, f, S ++ ⟨#[32]⟩ ++ s, false, acc ++ jP (k + 1) (l.getD (k + 1) []), by omega, by omega, by go_num, (by first | rfl | simp [ByteArray.append_assoc]), rfl, (by have h1z : (⟨#[32]⟩ : ByteArray).size = 1 := rfl; simp; omega), (fun h => by cases h), hide (fun _ => ⟨HS2D.out, by have h1z : (⟨#[32]⟩ : ByteArray).size = 1 := rfl; simp; omega⟩), hide (fun h => by cases h), hb.trans (Below.mono (hb1.trans (show Below wr.heap.size w1 _ by go_grown)) hb.size), HE⟩
                      · have hlg := HLG.out rfl
                        have HLN := hide (show 8000 < (acc ++ jP (k + 1) (l.getD (k + 1) [])).flatten.length by rw [List.flatten_append, List.length_append]; omega)
                        have HE := hide he
                        clear hlg he HR HS HLG HJ HSX HS2 HX HOK HSTOP
                        by_cases hov : 8000 < S.size + s.size
                        all_goals
                          go_wp2_with (first | (go_at_call 21; refine (rclass_at _ _ HC.out _).mono ?_; rintro e w' ⟨rfl, rfl⟩) | (go_at_call 22; refine (HWD.out _ (by go_grown)).mono ?_; rintro e w' ⟨rfl, rfl⟩) | (go_at_call 23; refine (HNM.out _ (by go_grown)).mono ?_; rintro e w' ⟨rfl, rfl⟩))
                          go_roundg (gk - 1)
                          case measure => omega
                          case rel => exact ⟨k + 1 + 1, f, S, true, acc ++ jP (k + 1) (l.getD (k + 1) []), by omega, by omega, by go_num, rfl, rfl, hS, fun _ => by omega, hide (fun h => by cases h), hide (fun _ => HLN.out), hb.trans (Below.mono (hb1.trans (show Below wr.heap.size w1 _ by go_grown)) hb.size), HE⟩
                · rw [hwB] at HWD
                  have HOK : Hid (okW s.data.toList = true) := hide (by rw [HOK0.out, hwB]; rfl)
                  clear hwB HOK0 HNM
                  have he := HR.out.trans (jGo_ok hkl (jF_ok.2 (by rw [HSX.out, HOK.out])))
                  rcases Nat.eq_zero_or_pos k with hk0 | hk0
                  · subst hk0
                    cases lg
                    · obtain ⟨hSd, hSz⟩ := HS.out rfl
                      have hjp : jP 0 (l.getD 0 []) = [l.getD 0 []] := by unfold jP; simp
                      obtain ⟨S1, hS1⟩ : ∃ x, x = S := ⟨_, rfl⟩
                      have hS1z : S1.size ≤ 8001 := by rw [hS1]; exact hS
                      have hS1d : S1.data.toList ++ s.data.toList = (acc ++ jP 0 (l.getD 0 [])).flatten := by rw [hjp, hS1, hSd, HSX.out]; simp
                      clear hSd hjp
                      subst hS1
                      have hs1l : S1.data.toList.length = S1.size := by simp
                      have hssl : s.data.toList.length = s.size := by simp
                      have hfl := congrArg List.length hS1d
                      rw [List.length_append] at hfl
                      have HS1D := hide hS1d
                      have HE := hide he
                      clear hS1d he HR HS HLG HJ HSX HS2 HX HOK HSTOP
                      by_cases hov : 8000 < S1.size + s.size
                      · have HLN := hide (show 8000 < (acc ++ jP 0 (l.getD 0 [])).flatten.length by omega)
                        clear hs1l hssl hfl
                        go_wp2_with (first | (go_at_call 21; refine (rclass_at _ _ HC.out _).mono ?_; rintro e w' ⟨rfl, rfl⟩) | (go_at_call 22; refine (HWD.out _ (by go_grown)).mono ?_; rintro e w' ⟨rfl, rfl⟩) | (go_at_call 23; refine (HNM.out _ (by go_grown)).mono ?_; rintro e w' ⟨rfl, rfl⟩))
                        go_roundg (gk - 1)
                        case measure => omega
                        case rel => exact ⟨1, f, S1, true, acc ++ jP 0 (l.getD 0 []), by omega, by omega, by go_num, rfl, rfl, hS1z, fun _ => by omega, hide (fun h => by cases h), hide (fun _ => HLN.out), hb.trans (Below.mono (hb1.trans (show Below wr.heap.size w1 _ by go_grown)) hb.size), HE⟩
                      · obtain ⟨S2, hS2e⟩ : ∃ x, x = S1 ++ s := ⟨_, rfl⟩
                        have hadd2 := run_addS S1 s S2 hS2e (by omega)
                        have hS2z : S2.size = S1.size + s.size := by rw [hS2e]; simp
                        have hS2d : S2.data.toList = (acc ++ jP 0 (l.getD 0 [])).flatten := by rw [← HS1D.out, hS2e]; simp
                        have HS2D := hide hS2d
                        have HS2E := hide hS2e
                        clear hS2e hS2d hs1l hssl hfl
                        go_wp2_with (first | (go_at_call 21; refine (rclass_at _ _ HC.out _).mono ?_; rintro e w' ⟨rfl, rfl⟩) | (go_at_call 22; refine (HWD.out _ (by go_grown)).mono ?_; rintro e w' ⟨rfl, rfl⟩) | (go_at_call 23; refine (HNM.out _ (by go_grown)).mono ?_; rintro e w' ⟨rfl, rfl⟩))
                        go_roundg (gk - 1)
                        case measure => omega
                        case rel => exact ⟨1, f, S2, false, acc ++ jP 0 (l.getD 0 []), by omega, by omega, by go_num, (by first | rfl | rw [HS2E.out]), rfl, by omega, (fun h => by cases h), hide (fun _ => ⟨HS2D.out, by omega⟩), hide (fun h => by cases h), hb.trans (Below.mono (hb1.trans (show Below wr.heap.size w1 _ by go_grown)) hb.size), HE⟩
                    · have := hlk rfl; omega
                  · obtain ⟨k, rfl⟩ : ∃ j, k = j + 1 := ⟨k - 1, by omega⟩
                    cases lg
                    · obtain ⟨hSd, hSz⟩ := HS.out rfl
                      have hjp : jP (k + 1) (l.getD (k + 1) []) = [[32], l.getD (k + 1) []] := by unfold jP; rw [HSTOP.out]; simp
                      have hS1d : S.data.toList ++ [32] ++ s.data.toList = (acc ++ jP (k + 1) (l.getD (k + 1) [])).flatten := by rw [hjp, HSX.out]; simp [hSd]
                      clear hSd hjp
                      have hs1l : S.data.toList.length = S.size := by simp
                      have hssl : s.data.toList.length = s.size := by simp
                      have hfl := congrArg List.length hS1d
                      simp only [List.length_append, List.length_cons, List.length_nil] at hfl
                      have HS1D := hide hS1d
                      have HE := hide he
                      clear hS1d he HR HS HLG HJ HSX HS2 HX HOK HSTOP
                      by_cases hov : 8000 < S.size + 1 + s.size
                      · have HLN := hide (show 8000 < (acc ++ jP (k + 1) (l.getD (k + 1) [])).flatten.length by omega)
                        clear hs1l hssl hfl
                        go_wp2_with (first | (go_at_call 21; refine (rclass_at _ _ HC.out _).mono ?_; rintro e w' ⟨rfl, rfl⟩) | (go_at_call 22; refine (HWD.out _ (by go_grown)).mono ?_; rintro e w' ⟨rfl, rfl⟩) | (go_at_call 23; refine (HNM.out _ (by go_grown)).mono ?_; rintro e w' ⟨rfl, rfl⟩))
                        go_roundg (gk - 1)
                        case measure => omega
                        case rel => exact ⟨k + 1 + 1, f, S ++ ⟨#[32]⟩, true, acc ++ jP (k + 1) (l.getD (k + 1) []), by omega, by omega, by go_num, rfl, rfl, (by have h1z : (⟨#[32]⟩ : ByteArray).size = 1 := rfl; simp; omega), fun _ => by omega, hide (fun h => by cases h), hide (fun _ => HLN.out), hb.trans (Below.mono (hb1.trans (show Below wr.heap.size w1 _ by go_grown)) hb.size), HE⟩
                      · have hS2d : (S ++ ⟨#[32]⟩ ++ s).data.toList = (acc ++ jP (k + 1) (l.getD (k + 1) [])).flatten := by rw [← HS1D.out]; simp
                        have HS2D := hide hS2d
                        clear hS2d hs1l hssl hfl
                        go_wp2_with (first | (go_at_call 21; refine (rclass_at _ _ HC.out _).mono ?_; rintro e w' ⟨rfl, rfl⟩) | (go_at_call 22; refine (HWD.out _ (by go_grown)).mono ?_; rintro e w' ⟨rfl, rfl⟩) | (go_at_call 23; refine (HNM.out _ (by go_grown)).mono ?_; rintro e w' ⟨rfl, rfl⟩))
                        go_roundg (gk - 1)
                        case measure => omega
                        case rel => exact ⟨k + 1 + 1, f, S ++ ⟨#[32]⟩ ++ s, false, acc ++ jP (k + 1) (l.getD (k + 1) []), by omega, by omega, by go_num, (by first | rfl | simp [ByteArray.append_assoc]), rfl, (by have h1z : (⟨#[32]⟩ : ByteArray).size = 1 := rfl; simp; omega), (fun h => by cases h), hide (fun _ => ⟨HS2D.out, by have h1z : (⟨#[32]⟩ : ByteArray).size = 1 := rfl; simp; omega⟩), hide (fun h => by cases h), hb.trans (Below.mono (hb1.trans (show Below wr.heap.size w1 _ by go_grown)) hb.size), HE⟩
                    · have hlg := HLG.out rfl
                      have HLN := hide (show 8000 < (acc ++ jP (k + 1) (l.getD (k + 1) [])).flatten.length by rw [List.flatten_append, List.length_append]; omega)
                      have HE := hide he
                      clear hlg he HR HS HLG HJ HSX HS2 HX HOK HSTOP
                      by_cases hov : 8000 < S.size + s.size
                      all_goals
                        go_wp2_with (first | (go_at_call 21; refine (rclass_at _ _ HC.out _).mono ?_; rintro e w' ⟨rfl, rfl⟩) | (go_at_call 22; refine (HWD.out _ (by go_grown)).mono ?_; rintro e w' ⟨rfl, rfl⟩) | (go_at_call 23; refine (HNM.out _ (by go_grown)).mono ?_; rintro e w' ⟨rfl, rfl⟩))
                        go_roundg (gk - 1)
                        case measure => omega
                        case rel => exact ⟨k + 1 + 1, f, S, true, acc ++ jP (k + 1) (l.getD (k + 1) []), by omega, by omega, by go_num, rfl, rfl, hS, fun _ => by omega, hide (fun h => by cases h), hide (fun _ => HLN.out), hb.trans (Below.mono (hb1.trans (show Below wr.heap.size w1 _ by go_grown)) hb.size), HE⟩
          · have hP := rpoints_ints s wr hsm
            obtain ⟨a1, h1⟩ : ∃ x, x = (decR s.data.toList).1.1 := ⟨_, rfl⟩
            obtain ⟨a2, h2⟩ : ∃ x, x = (decR s.data.toList).1.2 := ⟨_, rfl⟩
            have HOK := hide (okW_bad hq)
            rw [← h1] at hq
            simp only [← h1, ← h2] at hP
            have hfa := fEq_ne (b := a2) hq
            have HP := hide hP
            clear hP hq h1 h2 hq2
            go_wp2_with fail
            refine HP.out.mono ?_
            rintro e w1 ⟨v1, rfl, hv1, hb1⟩
            have hz1 := hb1.size
            obtain ⟨A1, m, c1, rfl, HM, hmc, hmb, hrd1⟩ := hv1
            clear HP hrd1 hmb
            have HC := HM
            have HWD := HM
            have HNM := HM
            have HE := hide (show joinR l = ((5, (k : Int)), []) by
              have hj : jF (l.getD k []) = 5 := by unfold jF; rw [if_neg (by omega), if_neg (by rw [HSX.out, HOK.out]; simp)]
              have he := HR.out.trans (jGo_bad hkl (by rw [hj]; decide))
              rw [hj] at he
              rw [HJ.out, he]; simp)
            clear HR
            go_wp2_with (first | (go_at_call 21; refine (rclass_at _ _ HC.out _).mono ?_; rintro e w' ⟨rfl, rfl⟩) | (go_at_call 22; refine (HWD.out _ (by go_grown)).mono ?_; rintro e w' ⟨rfl, rfl⟩) | (go_at_call 23; refine (HNM.out _ (by go_grown)).mono ?_; rintro e w' ⟨rfl, rfl⟩))
            refine (rfault_any _ _ _).mono ?_
            rintro e w5 ⟨rfl, hb5⟩
            have hbx : Below wr.heap.size wr w5 := hb1.trans (Below.trans (show Below wr.heap.size w1 _ by go_grown) (hb5.mono (by simp; omega)))
            have hz5 : w.heap.size < w5.heap.size := by have := hbx.size; omega
            have q0 := keep_cell hbx q0 hzc
            have q1 := keep_cell hbx q1 hzc
            have f0 := keep_free hbx f0 hzc
            have f1 := keep_free hbx f1 hzc
            have hbw5 : Below w.heap.size w w5 := hbwc.trans (hbx.mono hbwc.size)
            clear hb5 hbx
            go_wp2
            rw [HE.out]
            exact bodyPost_ret (v := .tuple #[.string ⟨#[]⟩, .agg #[.int .i64 5, .int .i64 k]]) (by simp [results, Tryd.results10, go_sem, q0, q1, f0, f1, hz5]) rfl ⟨rfl, by go_grown⟩
      · have he := HR.out.trans (jGo_end (f := f) (acc := acc) (by rw [HN.out]; exact hkn))
        obtain rfl : n = k := by omega
        have hj := HJ.out
        rw [he, if_pos rfl] at hj
        replace hj : joinR l = jB acc.flatten := hj
        cases lg
        · obtain ⟨hS1, hS2⟩ := HS.out rfl
          rw [← hS1] at hj
          unfold jB at hj
          have hlS : S.data.toList.length = S.size := by simp
          by_cases h4 : 4000 < S.size
          · rw [if_pos (by omega)] at hj
            have HE := hide hj
            clear hj he HR HS HLG hS1
            go_wp2_with fail
            refine (rfault_any _ _ _).mono ?_
            rintro e w5 ⟨rfl, hb5⟩
            have hz5 : w.heap.size < w5.heap.size := by have := hb5.size; omega
            have q0 := keep_cell hb5 q0 hzc
            have q1 := keep_cell hb5 q1 hzc
            have f0 := keep_free hb5 f0 hzc
            have f1 := keep_free hb5 f1 hzc
            have hbw5 : Below w.heap.size w w5 := hbwc.trans (hb5.mono hbwc.size)
            go_wp2
            rw [HE.out]
            exact bodyPost_ret (v := .tuple #[.string ⟨#[]⟩, .agg #[.int .i64 1, .int .i64 (-1)]]) (by simp [results, Tryd.results10, go_sem, q0, q1, f0, f1, hz5]) rfl ⟨rfl, by go_grown⟩
          · rw [if_neg (by omega)] at hj
            have HE := hide hj
            clear hj he HR HS HLG hS1
            go_wp2
            rw [HE.out]
            exact bodyPost_ret (v := .tuple #[.string S, .agg #[.int .i64 0, .int .i64 0]]) (by simp [results, Tryd.results10, go_sem, q0, q1, f0, f1, hzc]) rfl ⟨by simp, by go_grown⟩
        · have := HLG.out rfl
          unfold jB at hj
          rw [if_pos (by omega)] at hj
          have HE := hide hj
          clear hj he HR HS HLG this
          go_wp2_with fail
          refine (rfault_any _ _ _).mono ?_
          rintro e w5 ⟨rfl, hb5⟩
          have hz5 : w.heap.size < w5.heap.size := by have := hb5.size; omega
          have q0 := keep_cell hb5 q0 hzc
          have q1 := keep_cell hb5 q1 hzc
          have f0 := keep_free hb5 f0 hzc
          have f1 := keep_free hb5 f1 hzc
          have hbw5 : Below w.heap.size w w5 := hbwc.trans (hb5.mono hbwc.size)
          go_wp2
          rw [HE.out]
          exact bodyPost_ret (v := .tuple #[.string ⟨#[]⟩, .agg #[.int .i64 1, .int .i64 (-1)]]) (by simp [results, Tryd.results10, go_sem, q0, q1, f0, f1, hz5]) rfl ⟨rfl, by go_grown⟩
end Go.Proofs.YtcchpijadlgagaaDoor
