/- The law TokenJoinedIsCut, walked: it returns true. -/
import Derived.Test.YtcchpijadlgagaaDoorTkD
import Derived.Test.YtcchpijadlgagaaDoorTkA
namespace Go.Proofs.YtcchpijadlgagaaDoor
open Go.RowKit Gm
set_option linter.unusedSimpArgs false
set_option linter.unusedVariables false
theorem joinR_cases (ws : List (List UInt8)) : (joinR ws).1.1 ≠ 0 ∨ ((joinR ws).1 = (0, 0) ∧ (joinR ws).2.length ≤ 4000 ∧ ∃ L, cutR (joinR ws).2 = ((0, 0), L) ∧ L.map (·.t) = ws) := by
  by_cases h : (joinR ws).1.1 = 0
  · right
    obtain ⟨h1, h2⟩ := joinR_ok_all h
    rcases join_cut h1 h2 with h3 | ⟨h3, h4, h5, h6, _⟩
    · rw [h3] at h; cases h
    · exact ⟨h3, h4, _, Prod.ext h5 rfl, h6⟩
  · exact .inl h
theorem map_getD {L : List Tok} {ws : List (List UInt8)} (h : L.map (·.t) = ws) (k : Nat) : (L.getD k dT).t = ws.getD k [] := by
  subst h
  simp only [List.getD, List.getElem?_map]
  cases L[k]? <;> rfl
theorem map_len {L : List Tok} {ws : List (List UInt8)} (h : L.map (·.t) = ws) : L.length = ws.length := by rw [← h]; simp
set_option maxRecDepth 100000 in
set_option maxHeartbeats 4000000 in
theorem joinedcut_any (v : Value) (l : List (List UInt8)) (w : World) (hT : Tabs w) (hv : Strs w w.heap.size v l) :
    Calls Tryd.prog 4 #[v] w fun e w' => e = .returned (.bool true) ∧ Below w.heap.size w w' := by
  have hne := fun a b c d W => run_neq_fault a b c d W
  have hf0 : fEq 0 0 0 0 = true := rfl
  have HT := hide hT
  have HV := hide hv
  have hD := fun W B (hT : Tabs W) (hB : B ≤ W.heap.size) (h : Strs W B v l) => tjoin_any v l W B hT hB h
  rcases joinR_cases l with hq | ⟨hq, h4, L, hc, hmap⟩
  · obtain ⟨a1, h1⟩ : ∃ x, x = (joinR l).1.1 := ⟨_, rfl⟩
    obtain ⟨a2, h2⟩ : ∃ x, x = (joinR l).1.2 := ⟨_, rfl⟩
    obtain ⟨T, h3⟩ : ∃ x, x = (⟨(joinR l).2.toArray⟩ : ByteArray) := ⟨_, rfl⟩
    simp only [← h1, ← h2, ← h3] at hD
    rw [← h1] at hq
    have hfa := fEq_ne (b := a2) hq
    have HD := hide hD
    clear hD hq h1 h2 h3 hT hv
    go_enter Tryd.func4, Tryd.ntmps4
    go_wp2_with fail
    refine (joined_any _ HT.out).mono ?_
    rintro e w1 ⟨rfl, hb1⟩
    go_wp2_with fail
    refine (cutex_any _ (tabs_keep HT.out hb1 (Nat.le_refl _))).mono ?_
    rintro e w2 ⟨rfl, hb2⟩
    have hbw2 : Below w.heap.size w w2 := hb1.trans (hb2.mono hb1.size)
    have hz2 := hbw2.size
    clear hb1 hb2
    go_wp2_with fail
    refine (HD.out _ w.heap.size (tabs_keep HT.out hbw2 (Nat.le_refl _)) hz2 (HV.out.below hbw2 (Nat.le_refl _))).mono ?_
    rintro e w3 ⟨rfl, hb3⟩
    have hbw3 : Below w.heap.size w w3 := hbw2.trans (hb3.mono hz2)
    clear hb3
    go_wp2
    go_ret
    exact ⟨rfl, by have := hbw3.size; go_grown⟩
  · obtain ⟨T, h3⟩ : ∃ x, x = (⟨(joinR l).2.toArray⟩ : ByteArray) := ⟨_, rfl⟩
    rw [hq] at hD
    simp only [← h3] at hD
    have hTd : T.data.toList = (joinR l).2 := by rw [h3]
    have hTz : T.size ≤ maxLen := by
      have : T.data.toList.length = T.size := by simp
      rw [hTd] at this
      unfold maxLen; omega
    have hC := fun W (h : Tabs W) => cut_any T W h hTz
    rw [hTd, hc] at hC
    have hlen := map_len hmap
    have hget := map_getD hmap
    have HD := hide hD
    have HC := hide hC
    have HG := hide hget
    have HL := hide hlen
    clear hD hC h3 hTd hTz hc hmap hq h4 hT hv hget hlen
    go_enter Tryd.func4, Tryd.ntmps4
    go_wp2_with fail
    refine (joined_any _ HT.out).mono ?_
    rintro e w1 ⟨rfl, hb1⟩
    go_wp2_with fail
    refine (cutex_any _ (tabs_keep HT.out hb1 (Nat.le_refl _))).mono ?_
    rintro e w2 ⟨rfl, hb2⟩
    have hbw2 : Below w.heap.size w w2 := hb1.trans (hb2.mono hb1.size)
    have hz2 := hbw2.size
    clear hb1 hb2
    go_wp2_with fail
    refine (HD.out _ w.heap.size (tabs_keep HT.out hbw2 (Nat.le_refl _)) hz2 (HV.out.below hbw2 (Nat.le_refl _))).mono ?_
    rintro e w3 ⟨rfl, hb3⟩
    have hbw3 : Below w.heap.size w w3 := hbw2.trans (hb3.mono hz2)
    have hz3 := hbw3.size
    clear hb3
    go_wp2_with fail
    refine (HC.out _ (tabs_keep HT.out (by go_grown) (Nat.le_refl _))).mono ?_
    rintro e w4 ⟨v4, rfl, hv4, hb4⟩
    have hbw4 : Below w.heap.size w w4 := Below.trans (show Below w.heap.size w _ by go_grown) (hb4.mono (by simp; omega))
    have hz4 := hbw4.size
    obtain ⟨A, m, c, rfl, HM, hmc, hmb, hrd⟩ := hv4
    obtain ⟨A', n, c', hvE, HN, hnc, hnb, hrd', HX⟩ := HV.out.below hbw4 (Nat.le_refl _)
    subst hvE
    obtain rfl : m = n := by rw [← HM.out, ← HN.out, HL.out]
    unfold big at hmb hnb
    clear hb4 HC HD HL
    go_wp2
    generalize hW : World.alloc _ _ = W0
    have hb40 : Below w4.heap.size w4 W0 := by rw [← hW]; go_grown
    have hbw0 : Below w.heap.size w W0 := hbw4.trans (hb40.mono hz4)
    have hrd0 := hrd.below hb40 (Nat.le_refl _)
    have hrd0' := (hrd'.mono hz4).below hb40 (Nat.le_refl _)
    have hz40 : w4.heap.size ≤ W0.heap.size := hb40.size
    clear hW hb40 hrd hrd' hbw4 hbw3 hbw2
    go_loopw [39] (fun iv wr => ∃ (k q : Nat), k ≤ m ∧ iv = .int .i64 k ∧ Hid (wr = W0.drewN q)) (fun iv _ => m - (intOf iv).toNat)
    case atStart => exact ⟨0, 0, by omega, rfl, hide rfl⟩
    case round =>
      obtain ⟨k, q, hk, rfl, hwr⟩ := hrel
      obtain rfl := hwr.out
      clear hwr
      by_cases hkm : k < m
      · obtain ⟨b, off, t, rfl, hbB, c0, c1, c2, c3, HTK⟩ := tok_at hrd0 hkm
        obtain ⟨b', off', s, rfl, hbB', d0, HSX, hsm, HS2⟩ := str_at hrd0' HN HX hkm
        have hTs : (⟨t.t.toArray⟩ : ByteArray) = s := by rw [HS2.out, ← HG.out k, HTK.out]
        rw [hTs] at c3
        have hns := fun W => run_neqS0 s W
        have j0 : (0 : Int) ≤ (k : Int) := by omega
        have j1 : (k : Int) < (m : Int) := by omega
        clear HTK HSX HS2 hTs
        go_wp2
        go_quiet (fail)
        go_wp2
        go_roundw
        case rel => exact ⟨k + 1, _, by omega, by go_num, hide rfl⟩
        case measure => simp [intOf]; omega
      · go_wp2
        go_ret
        exact ⟨rfl, below_drewN hbw0 _⟩
end Go.Proofs.YtcchpijadlgagaaDoor
