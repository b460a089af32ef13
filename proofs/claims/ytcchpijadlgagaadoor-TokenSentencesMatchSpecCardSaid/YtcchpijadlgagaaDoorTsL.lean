/- The closed example of Sentences, and the laws over sentences, walked. -/
import Derived.Test.YtcchpijadlgagaaDoorTsT
namespace Go.Proofs.YtcchpijadlgagaaDoor
open Go.RowKit Gm
set_option linter.unusedSimpArgs false
set_option linter.unusedVariables false
def exS : List (Nat × Nat) := [(0, 2), (2, 4)]
theorem ex_sen : senR [71, 111, 46, 32, 83, 116, 111, 112, 33] = ((0, 0), exS) := by decide +kernel
theorem senex_any (w : World) (hT : Tabs w) :
    Calls Tryd.prog 13 #[] w fun e w' => e = .returned (.bool true) ∧ Below w.heap.size w w' := by
  have he := fun a b c d W => run_eql_fault a b c d W
  have hf : fEq 0 0 0 0 = true := rfl
  have hD := tsen_any ⟨#[71, 111, 46, 32, 83, 116, 111, 112, 33]⟩ w hT (by simp [maxLen]; decide)
  rw [show (⟨#[71, 111, 46, 32, 83, 116, 111, 112, 33]⟩ : ByteArray).data.toList = [71, 111, 46, 32, 83, 116, 111, 112, 33] from rfl, ex_sen] at hD
  have HD := hide hD
  clear hT hD
  go_enter Tryd.func13, Tryd.ntmps13
  go_wp2_with fail
  refine HD.out.mono ?_
  rintro e w1 ⟨v, rfl, hv, hb1⟩
  have HV := hide hv
  clear hv
  go_wp2_with fail
  refine (espans_any _ _ exS exS _ (w1.heap.size + 1 + 1) ((HV.out.below (B' := w1.heap.size) (by go_grown) (Nat.le_refl _)).mono (by omega)) (SpansAt.of_blk (t := 40) (Blk.at_ (by simp)) rfl rfl (by simp [big, exS])) (by simp)).mono ?_
  rintro e w4 ⟨rfl, hb4⟩
  have hbw4 : Below w.heap.size w w4 := hb1.trans (Below.trans (by have := hb1.size; go_grown) (hb4.mono (by have := hb1.size; simp; omega)))
  clear hb4
  have hd : decide (exS = exS) = true := by simp
  rw [hd]
  go_wp2
  go_ret
  exact ⟨rfl, hbw4⟩
theorem senlaw_any (s : ByteArray) (w : World) (hT : Tabs w) (hs : s.size ≤ maxLen) :
    Calls Tryd.prog 6 #[.string s] w fun e w' => e = .returned (.bool true) ∧ Below w.heap.size w w' := by
  have he := fun a b c d W => run_eql_fault a b c d W
  obtain ⟨a1, h1⟩ : ∃ x, x = (senR s.data.toList).1.1 := ⟨_, rfl⟩
  obtain ⟨a2, h2⟩ : ∃ x, x = (senR s.data.toList).1.2 := ⟨_, rfl⟩
  obtain ⟨L, hL⟩ : ∃ x, x = (senR s.data.toList).2 := ⟨_, rfl⟩
  have hD := fun W (h : Tabs W) => tsen_any s W h hs
  have hP := fun W => rspan_any s W hs
  simp only [← h1, ← h2, ← hL] at hD hP
  have HD := hide hD
  have HP := hide hP
  have HT := hide hT
  clear hT hD hP h1 h2 hL
  have f1 : fEq a1 a2 a1 a2 = true := by simp [fEq]
  go_enter Tryd.func6, Tryd.ntmps6
  go_wp2_with fail
  refine (senex_any _ HT.out).mono ?_
  rintro e w1 ⟨rfl, hb1⟩
  go_wp2_with fail
  refine (HD.out _ (tabs_keep HT.out hb1 (Nat.le_refl _))).mono ?_
  rintro e w2 ⟨v2, rfl, hv2, hb2⟩
  have hbw : Below w.heap.size w w2 := hb1.trans (hb2.mono hb1.size)
  clear hb1 hb2
  have HV2 := hide hv2
  clear hv2
  go_wp2_with fail
  refine (HP.out _).mono ?_
  rintro e w3 ⟨v3, rfl, hv3, hb3⟩
  have bF := (Blk.new w2 25 #[.int .i64 a1, .int .i64 a2]).below hb3 (by simp)
  have hbb : Below w2.heap.size w2 w3 := Below.trans (by go_grown) (hb3.mono (by simp))
  have hs3 := hb3.size
  simp at hs3
  have HV2 := hide (HV2.out.below hbb (Nat.le_refl _))
  have hbw : Below w.heap.size w w3 := hbw.trans (hbb.mono hbw.size)
  clear hb3 hbb
  have HV3 := hide hv3
  clear hv3
  have q0 : w3.cell? ⟨w2.heap.size, 0, none⟩ = some (.int .i64 a1) := bF.cell 0
  have q1 : w3.cell? ⟨w2.heap.size, 1, none⟩ = some (.int .i64 a2) := bF.cell 1
  have l2 : w2.heap.size < w3.heap.size := by omega
  go_wp2_with fail
  refine (espans_any _ _ L L _ w3.heap.size ((HV2.out.below (B' := w3.heap.size) (by go_grown) (by omega)).mono (by omega)) (HV3.out.below (B' := w3.heap.size) (by go_grown) (Nat.le_refl _)) (by simp)).mono ?_
  rintro e w6 ⟨rfl, hb6⟩
  have hbw6 : Below w.heap.size w w6 := hbw.trans (Below.trans (by have := hbw.size; go_grown) (hb6.mono (by have := hbw.size; simp; omega)))
  have hd : decide (L = L) = true := by simp
  rw [hd]
  clear hb6 hd
  go_wp2
  go_ret
  exact ⟨rfl, hbw6⟩
set_option maxRecDepth 100000 in
set_option maxHeartbeats 4000000 in
theorem senpart_any (s : ByteArray) (w : World) (hT : Tabs w) (hs : s.size ≤ maxLen) :
    Calls Tryd.prog 7 #[.string s] w fun e w' => e = .returned (.bool true) ∧ Below w.heap.size w w' := by
  have hne := fun a b c d W => run_neq_fault a b c d W
  have he := fun a b c d W => run_eql_fault a b c d W
  have hf0 : fEq 0 0 0 0 = true := rfl
  have HT := hide hT
  have hC := fun W (h : Tabs W) => cut_any s W h hs
  have hD := fun W (h : Tabs W) => tsen_any s W h hs
  rcases senR_cases s.data.toList with ⟨ps, h1, h2, h3, h4, h5⟩ | ⟨h1, h2⟩
  · rw [h2] at hC
    rw [h3] at hD
    have hch := sens_chain (toks ps)
    have hle := sens_le (toks ps)
    obtain ⟨L, hL⟩ : ∃ L, L = toks ps := ⟨_, rfl⟩
    rw [← hL] at hC hD hch hle h4
    have HC := hide hC
    have HD := hide hD
    have HCH := hide hch
    clear hC hD hch h1 h2 h3 h5 hL hT hs
    go_enter Tryd.func7, Tryd.ntmps7
    go_wp2_with fail
    refine (senex_any _ HT.out).mono ?_
    rintro e w1 ⟨rfl, hb1⟩
    have hz1 := hb1.size
    go_wp2_with fail
    refine (HC.out _ (tabs_keep HT.out hb1 (Nat.le_refl _))).mono ?_
    rintro e w2 ⟨v2, rfl, hv2, hb2⟩
    have hbw2 : Below w.heap.size w w2 := hb1.trans (hb2.mono hz1)
    have hz2 := hbw2.size
    obtain ⟨A, m, c, rfl, HM, hmc, hmb, _⟩ := hv2
    clear hb1 hb2
    go_wp2_with fail
    refine (HD.out _ (tabs_keep HT.out (by go_grown) (Nat.le_refl _))).mono ?_
    rintro e w3 ⟨v3, rfl, hv3, hb3⟩
    have bF := (Blk.new w2 25 #[.int .i64 0, .int .i64 0]).below hb3 (by simp)
    have q0 : w3.cell? ⟨w2.heap.size, 0, none⟩ = some (.int .i64 0) := bF.cell 0
    have q1 : w3.cell? ⟨w2.heap.size, 1, none⟩ = some (.int .i64 0) := bF.cell 1
    have l2 := bF.lt
    have hbw3 : Below w.heap.size w w3 := (hbw2.alloc hz2 _).trans (hb3.mono (by simp; omega))
    have hz3 := hbw3.size
    obtain ⟨A3, n, c3, rfl, HN, hnc, hnb, hrd⟩ := hv3
    have hn300 : n ≤ 300 := by rw [← HN.out]; omega
    have hm300 : m ≤ 300 := by rw [← HM.out]; exact h4
    clear hb3 HC HD bF hmb hnb
    go_wp2
    generalize hW : World.alloc _ _ = W0
    have hb30 : Below w3.heap.size w3 W0 := by rw [← hW]; go_grown
    have hbw0 : Below w.heap.size w W0 := hbw3.trans (hb30.mono hz3)
    have hrd0 := (hrd.below hb30 (Nat.le_refl _)).mono hb30.size
    clear hW hb30 hrd hbw3 hbw2
    obtain ⟨l, hl⟩ : ∃ l, l = sens L := ⟨_, rfl⟩
    rw [← hl] at HN hrd0
    have HCH := hide (show Chain 0 (l.drop 0) m by rw [hl, ← HM.out]; exact HCH.out)
    clear hl
    go_loopg [35, 7] n (fun gk iv av wr => ∃ (k a : Nat), k + gk = n ∧ iv = .int .i64 k ∧ av = .int .i64 a ∧ Below W0.heap.size W0 wr ∧ Hid (Chain a (l.drop k) m))
    case atStart => exact ⟨0, 0, by omega, rfl, rfl, Below.refl _ _, HCH⟩
    case round =>
      clear HCH
      obtain ⟨k, a, hkg, rfl, rfl, hb, HC⟩ := hrel
      have hzb := hb.size
      by_cases hkn : k < n
      · obtain ⟨b, off, x, y, rfl, hbB, c0, c1, HSP⟩ := sp_at (hrd0.below hb (Nat.le_refl _)) hkn
        have hc := HC.out
        have hdk : l.drop k = (x, y) :: l.drop (k + 1) := by
          have hkl : k < l.length := by rw [HN.out]; exact hkn
          rw [List.drop_eq_getElem_cons hkl]
          congr 1
          rw [← HSP.out]; simp [List.getD, hkl]
        rw [hdk] at hc
        obtain ⟨hc1, hc2, hc3⟩ := hc
        simp only at hc1 hc2 hc3
        subst hc1
        have HC2 := hide hc3
        have t1 : decide ((y : Int) ≤ (x : Int)) = false := by simp; omega
        have j0 : (0 : Int) ≤ (k : Int) := by omega
        have j1 : (k : Int) < (n : Int) := by omega
        clear hc3 hdk HSP HC
        go_wp2
        go_roundg (gk - 1)
        case measure => omega
        case rel => exact ⟨k + 1, y, by omega, by go_num, rfl, by go_grown, HC2⟩
      · have hc := HC.out
        rw [List.drop_eq_nil_of_le (by rw [HN.out]; omega)] at hc
        obtain rfl : a = m := hc
        obtain rfl : n = k := by omega
        clear HC
        go_wp2
        go_ret
        exact ⟨by first | rfl | simp, hbw0.trans (hb.mono hbw0.size)⟩
  · obtain ⟨a1, e1⟩ : ∃ x, x = (cutR s.data.toList).1.1 := ⟨_, rfl⟩
    obtain ⟨a2, e2⟩ : ∃ x, x = (cutR s.data.toList).1.2 := ⟨_, rfl⟩
    rw [h2] at hD
    rw [← e1] at h1
    simp only [← e1, ← e2] at hC hD
    have hfa := fEq_ne (b := a2) h1
    have hf1 : fEq a1 a2 a1 a2 = true := fEq_true ⟨rfl, rfl⟩
    have HC := hide hC
    have HD := hide hD
    clear hC hD h1 h2 e1 e2 hT hs
    go_enter Tryd.func7, Tryd.ntmps7
    go_wp2_with fail
    refine (senex_any _ HT.out).mono ?_
    rintro e w1 ⟨rfl, hb1⟩
    have hz1 := hb1.size
    go_wp2_with fail
    refine (HC.out _ (tabs_keep HT.out hb1 (Nat.le_refl _))).mono ?_
    rintro e w2 ⟨v2, rfl, hv2, hb2⟩
    have hbw2 : Below w.heap.size w w2 := hb1.trans (hb2.mono hz1)
    have hz2 := hbw2.size
    clear hb1 hb2 hv2
    go_wp2_with fail
    refine (HD.out _ (tabs_keep HT.out (by go_grown) (Nat.le_refl _))).mono ?_
    rintro e w3 ⟨v3, rfl, hv3, hb3⟩
    have bF := (Blk.new w2 25 #[.int .i64 a1, .int .i64 a2]).below hb3 (by simp)
    have q0 : w3.cell? ⟨w2.heap.size, 0, none⟩ = some (.int .i64 a1) := bF.cell 0
    have q1 : w3.cell? ⟨w2.heap.size, 1, none⟩ = some (.int .i64 a2) := bF.cell 1
    have l2 := bF.lt
    have hbw3 : Below w.heap.size w w3 := (hbw2.alloc hz2 _).trans (hb3.mono (by simp; omega))
    have hz3 := hbw3.size
    clear hb3 hv3 HC HD bF
    go_wp2
    go_ret
    exact ⟨rfl, by go_grown⟩
end Go.Proofs.YtcchpijadlgagaaDoor
