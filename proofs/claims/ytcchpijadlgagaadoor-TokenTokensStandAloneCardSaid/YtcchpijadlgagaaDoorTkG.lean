/- The law TokenTokensStandAlone, walked: it returns true. -/
import Derived.Test.YtcchpijadlgagaaDoorTkF
import Derived.Test.YtcchpijadlgagaaDoorTkE
import Derived.Test.YtcchpijadlgagaaDoorTkV
namespace Go.Proofs.YtcchpijadlgagaaDoor
open Go.RowKit Gm
set_option linter.unusedSimpArgs false
set_option linter.unusedVariables false
theorem run_neq_tok4 (K z : Int) (T : ByteArray) (W : World) : (binOp .neq 33 (.agg #[.int .i64 K, .int .i64 0, .int .i64 z, .string T]) (.agg #[.int .i64 K, .int .i64 0, .int .i64 z, .string T])).run Tryd.prog W = .ok (.bool false) W := by
  simp [go_sem]
theorem mapk_getD {L M : List Tok} (h : L.map (·.k) = M.map (·.k)) (hl : L.length = M.length) (k : Nat) : (L.getD k dT).k = (M.getD k dT).k := by
  have e := congrArg (fun l => l[k]?) h
  simp only [List.getElem?_map] at e
  simp only [List.getD]
  cases h1 : L[k]? <;> cases h2 : M[k]? <;> simp_all
theorem mapt_getD {L M : List Tok} (h : L.map (·.t) = M.map (·.t)) (k : Nat) : (L.getD k dT).t = (M.getD k dT).t := by
  have e := congrArg (fun l => l[k]?) h
  simp only [List.getElem?_map] at e
  simp only [List.getD]
  cases h1 : L[k]? <;> cases h2 : M[k]? <;> simp_all
theorem take_map {L : List Tok} {k : Nat} (h : k < L.length) {a : Tok} (ha : L.getD k dT = a) : (L.take (k + 1)).map (·.t) = (L.take k).map (·.t) ++ [a.t] := by
  rw [List.take_add_one, List.map_append]
  congr 1
  subst ha
  simp [List.getD, h]
set_option maxRecDepth 100000 in
set_option maxHeartbeats 8000000 in
theorem stand_any (s : ByteArray) (w : World) (hT : Tabs w) (hs : s.size ≤ maxLen) :
    Calls Tryd.prog 5 #[.string s] w fun e w' => e = .returned (.bool true) ∧ Below w.heap.size w w' := by
  have hne := fun a b c d W => run_neq_fault a b c d W
  have he := fun a b c d W => run_eql_fault a b c d W
  have hf0 : fEq 0 0 0 0 = true := rfl
  have hf1 : fEq 1 (-1) 0 0 = false := rfl
  have hf2 : fEq 1 (-1) 1 (-1) = true := rfl
  obtain ⟨i0, hi0, hz0', hz1', hz2'⟩ := info_parts str_info
  have HT := hide hT
  rcases cutR_cases s.data.toList with ⟨ps, hq, hc, h300⟩ | ⟨hq, _⟩
  · have hD := fun W (h : Tabs W) => cut_any s W h hs
    rw [hc] at hD
    obtain ⟨g1, g2, g3⟩ := decR_ok hq
    have hz : (encL ps).length ≤ 4000 := by rw [← g2]; exact g3
    have hst := stand g1 hz
    have hsj := stand_join g1 hz h300
    obtain ⟨L, hL⟩ : ∃ L, L = toks ps := ⟨_, rfl⟩
    rw [← hL] at hD hst hsj h300
    have HD := hide hD
    have HST := hide hst
    have HSJ := hide hsj
    clear hT hs hD g1 g2 g3 hq hc hL hst hsj hz
    go_enter Tryd.func5, Tryd.ntmps5
    go_wp2_with fail
    refine (cutex_any _ HT.out).mono ?_
    rintro e w1 ⟨rfl, hb1⟩
    go_wp2_with fail
    refine (joined_any _ (tabs_keep HT.out hb1 (Nat.le_refl _))).mono ?_
    rintro e w2 ⟨rfl, hb2⟩
    have hbw2 : Below w.heap.size w w2 := hb1.trans (hb2.mono hb1.size)
    have hz2 := hbw2.size
    clear hb1 hb2
    go_wp2_with fail
    refine (HD.out _ (tabs_keep HT.out hbw2 (Nat.le_refl _))).mono ?_
    rintro e w3 ⟨v3, rfl, hv3, hb3⟩
    have hbw3 : Below w.heap.size w w3 := hbw2.trans (hb3.mono hz2)
    have hz3 := hbw3.size
    obtain ⟨A, m, c, rfl, HM, hmc, hmb, hrd⟩ := hv3
    have hm300 : m ≤ 300 := by rw [← HM.out]; exact h300
    clear hb3 h300 hmb HD hbw2 hz2
    go_wp2
    generalize hW : World.alloc _ _ = W0
    have hb30 : Below w3.heap.size w3 W0 := by rw [← hW]; go_grown
    have hbw0 : Below w.heap.size w W0 := hbw3.trans (hb30.mono hz3)
    have hrd0 := (hrd.below hb30 (Nat.le_refl _)).mono hb30.size
    clear hW hb30 hrd hbw3 hz3
    go_loopg [31, 5] m (fun gk iv pv wr => ∃ (k : Nat) (acc : List (List UInt8)), k + gk = m ∧ iv = .int .i64 k ∧ Hid (acc.length = k) ∧ wr.ownsRow W0.heap.size 9 1 pv k (strRow acc) ∧ Below W0.heap.size W0 wr ∧ Hid (acc = (L.take k).map (·.t)))
    case atStart => exact ⟨0, [], by omega, rfl, hide rfl, World.ownsRow_nil _ _ _ _, Below.refl _ _, hide rfl⟩
    case round =>
      obtain ⟨k, acc, hkg, rfl, HACC, hown, hb, HA⟩ := hrel
      have hbwc : Below w.heap.size w wr := hbw0.trans (hb.mono hbw0.size)
      have hzwr := hbwc.size
      obtain ⟨A0, c9, hv9, hnc9, hcm9⟩ := own_value hown
      subst hv9
      unfold maxLen at hcm9
      have HO := hide hown
      clear hown
      by_cases hkm : k < m
      · obtain ⟨b, off, t, rfl, hbB, c0, c1, c2, c3, HTK⟩ := tok_at (hrd0.below hb (Nat.le_refl _)) hkm
        have hkl : k < L.length := by rw [HM.out]; exact hkm
        have hmem : t ∈ L := by
          rw [← HTK.out]; simp [List.getD, hkl]
        obtain ⟨s1, s2, _, s4⟩ := HST.out t hmem
        obtain ⟨T, hTT⟩ : ∃ T, T = (⟨t.t.toArray⟩ : ByteArray) := ⟨_, rfl⟩
        have hTd : T.data.toList = t.t := by rw [hTT]
        have hTz : T.size = t.t.length := by
          have : T.data.toList.length = T.size := by simp
          rw [← this, hTd]
        have hC := fun W (h : Tabs W) => cut_any T W h (by unfold maxLen; omega)
        rw [hTd, s2, ← hTz] at hC
        have HC := hide hC
        have hrow : strRow [t.t] = [.string T] := by rw [hTT]; rfl
        have HROW := hide hrow
        have HNEXT := hide (take_map hkl HTK.out)
        rw [← hTT] at c3
        have hT4 : T.size ≤ 4000 := by omega
        have hnt := fun K z W => run_neq_tok4 K z T W
        obtain ⟨K, hK⟩ : ∃ K, K = t.k := ⟨_, rfl⟩
        obtain ⟨S, hS⟩ : ∃ S, S = t.s := ⟨_, rfl⟩
        obtain ⟨E, hE⟩ : ∃ E, E = t.e := ⟨_, rfl⟩
        rw [← hK] at c0 HC
        rw [← hS] at c1
        rw [← hE] at c2
        have HTD := hide hTd
        have j0 : (0 : Int) ≤ (k : Int) := by omega
        have j1 : (k : Int) < (m : Int) := by omega
        clear s1 s2 s4 hC hTT hTd hTz hrow hmem hkl hK hS hE HTK
        go_wp2_with fail
        refine (HC.out _ (tabs_keep HT.out (by go_grown) (Nat.le_refl _))).mono ?_
        rintro e w4 ⟨v4, rfl, hv4, hb4⟩
        have bT := (Blk.new wr 33 #[.int .i64 K, .int .i64 S, .int .i64 E, .string T]).below hb4 (by simp)
        have q0 : w4.cell? ⟨wr.heap.size, 0, none⟩ = some (.int .i64 K) := bT.cell 0
        have q3 : w4.cell? ⟨wr.heap.size, 3, none⟩ = some (.string T) := bT.cell 3
        have hb04 : Below W0.heap.size W0 w4 := hb.trans (Below.trans (show Below wr.heap.size wr _ by go_grown) (hb4.mono (by simp)) |>.mono hb.size)
        have hz4 : wr.heap.size < w4.heap.size := bT.lt
        have hz04 := hb04.size
        obtain ⟨A4, n4, c4, rfl, HM4, hmc4, hmb4, hrd4⟩ := hv4
        obtain rfl : n4 = 1 := HM4.out.symm
        obtain ⟨b4, o4, a, rfl, hbB4, d0, d1, d2, d3, HA4⟩ := tok_at hrd4 (show 0 < 1 by omega)
        have ea : a = ⟨K, 0, (T.size : Int), T.data.toList⟩ := by rw [HTD.out]; exact HA4.out.symm
        have eT : (⟨T.data.toList.toArray⟩ : ByteArray) = T := by simp
        subst ea
        simp only [Nat.zero_mul, Nat.add_zero] at d0 d1 d2 d3
        rw [eT] at d3
        have HO4 := hide (own_below HO.out (Below.trans (show Below wr.heap.size wr _ by go_grown) (hb4.mono (by simp))) (Nat.le_refl _))
        clear hb4 bT hmb4 hrd4 HC HA4 eT HO HTD hmc4 HM4 c0 c1 c2 c3
        go_wp2
        go_quiet (fail)
        go_wp2_with (at_builtin; refine wpList_append_own _ rfl (.tmp 63) (.tmp 66) 22 rfl W0.heap.size 9 i0 _ 1 16 Tryd.underlying22 hi0 hz0' hz1' hz2' rfl (by omega) (.slice A0 k c9) k _ rfl ((own_drewN (HO4.out.alloc _) nq).alloc _) ⟨w4.heap.size + 1, 0, none⟩ 1 1 [.string T] rfl rfl (World.news_of_block (cs := #[.string T]) (t := 9) (fr := (0, 0)) (Blk.at_ (by simp))) (by simp [Value.oneCell']) (by simp only [maxLen]; omega) (by omega) (by simp; omega) ?_; intro v' w6 hown6 hg6 _)
        go_roundg (gk - 1)
        case measure => omega
        case rel =>
          refine ⟨k + 1, acc ++ [_], by omega, by go_num, hide (by rw [List.length_append, HACC.out]; rfl), ?_, ?_, hide (by rw [HNEXT.out, HA.out])⟩
          · rw [strRow_append, HROW.out]; exact hown6
          · exact ((below_drewN (hb04.alloc hz04 _) nq).alloc (by simp; omega) _).grown hg6 (by simp; omega) (fun k hk => (HO4.out.lt k hk).1)
      · obtain rfl : m = k := by omega
        have hacc2 : acc = L.map (·.t) := by rw [HA.out, List.take_of_length_le (by rw [HM.out]; omega)]
        have hrow : Rd wr wr.heap.size 1 A0 m (strCell acc) := Rd.of_own HO.out (by rw [← HACC.out]; exact strRow_at acc)
        have hmax : ∀ x ∈ acc, x.length ≤ maxLen := by
          intro x hx
          rw [hacc2] at hx
          obtain ⟨t, ht, rfl⟩ := List.mem_map.1 hx
          have := (HST.out t ht).2.2.2
          unfold maxLen; omega
        have hSV : Strs wr wr.heap.size (.slice A0 m c9) acc := ⟨A0, m, c9, rfl, HACC, hnc9, by unfold big; omega, hrow, hide hmax⟩
        have hJ := tjoin_any _ acc wr wr.heap.size (tabs_keep HT.out hbwc (Nat.le_refl _)) (Nat.le_refl _) hSV
        rw [hacc2] at hJ
        have hrdm := hrd0.below hb (Nat.le_refl _)
        rcases HSJ.out with hj | ⟨hj1, hj2, M, hj3, hj4, hj5⟩
        · rw [hj] at hJ
          obtain ⟨T, hTT⟩ : ∃ T, T = (⟨(joinR (L.map (·.t))).2.toArray⟩ : ByteArray) := ⟨_, rfl⟩
          rw [← hTT] at hJ
          have HJ := hide hJ
          clear hacc2 hrow hmax hSV hJ hj hTT hrdm HO HA HST HSJ hcm9 hnc9
          go_wp2_with fail
          refine HJ.out.mono ?_
          rintro e w5 ⟨rfl, hb5⟩
          have hbw5 : Below w.heap.size w w5 := hbwc.trans (hb5.mono hbwc.size)
          clear hb5
          go_wp2
          go_ret
          exact ⟨rfl, by have := hbw5.size; go_grown⟩
        · rw [hj1] at hJ
          obtain ⟨T, hTT⟩ : ∃ T, T = (⟨(joinR (L.map (·.t))).2.toArray⟩ : ByteArray) := ⟨_, rfl⟩
          rw [← hTT] at hJ
          have hTd : T.data.toList = (joinR (L.map (·.t))).2 := by rw [hTT]
          have hTz : T.size ≤ maxLen := by
            have : T.data.toList.length = T.size := by simp
            rw [hTd] at this
            unfold maxLen; omega
          have hC := fun W (h : Tabs W) => cut_any T W h hTz
          rw [hTd, hj3] at hC
          have hML : M.length = L.length := by
            have := congrArg List.length hj4
            simpa using this
          have HMT := hide (mapt_getD hj4)
          have HMK := hide (mapk_getD hj5 hML)
          have HJ := hide hJ
          have HC := hide hC
          have HRD := hide hrdm
          have HMLL := hide hML
          clear hacc2 hrow hmax hSV hJ hTT hrdm HO HA HST HSJ hcm9 hnc9 hC hj1 hj2 hj3 hj4 hj5 hTd hTz hML
          go_wp2_with fail
          refine HJ.out.mono ?_
          rintro e w5 ⟨rfl, hb5⟩
          have hbw5 : Below w.heap.size w w5 := hbwc.trans (hb5.mono hbwc.size)
          have hb05 : Below W0.heap.size W0 w5 := hb.trans (hb5.mono hb.size)
          have hz5 := hbw5.size
          have hz05 := hb05.size
          clear hb5
          go_wp2_with fail
          refine (HC.out _ (tabs_keep HT.out (by go_grown) (Nat.le_refl _))).mono ?_
          rintro e w6 ⟨v6, rfl, hv6, hb6⟩
          have hbw6 : Below w.heap.size w w6 := Below.trans (show Below w.heap.size w _ by go_grown) (hb6.mono (by simp; omega))
          have hb06 : Below W0.heap.size W0 w6 := Below.trans (hb05.alloc hz05 _) (hb6.mono (by simp; omega))
          have hz6 := hbw6.size
          have hz06 := hb06.size
          obtain ⟨A6, n6, c6, rfl, HM6, hmc6, hmb6, hrd6⟩ := hv6
          obtain rfl : n6 = m := by rw [← HM6.out, HMLL.out, HM.out]
          have hrd7 := hrd0.below hb06 (Nat.le_refl _)
          clear hb6 hmb6 HC HJ HRD HMLL hbw5 hb05
          go_wp2
          generalize hW1 : World.alloc _ _ = W1
          have hb61 : Below w6.heap.size w6 W1 := by rw [← hW1]; go_grown
          have hbw1 : Below w.heap.size w W1 := hbw6.trans (hb61.mono hz6)
          have hrd61 := hrd6.below hb61 (Nat.le_refl _)
          have hrd71 := hrd7.below (hb61.mono hz06) (Nat.le_refl _)
          have hz61 := hb61.size
          clear hW1 hb61 hrd6 hrd7 hbw6 hb06 hrd0 hb hbwc hbw0
          go_loopw [97] (fun iv wr => ∃ (k q : Nat), k ≤ n6 ∧ iv = .int .i64 k ∧ Hid (wr = W1.drewN q)) (fun iv _ => n6 - (intOf iv).toNat)
          case atStart => exact ⟨0, 0, by omega, rfl, hide rfl⟩
          case round =>
            obtain ⟨k, q, hk, rfl, hwr⟩ := hrel
            obtain rfl := hwr.out
            clear hwr
            by_cases hkn : k < n6
            · obtain ⟨b, off, t, rfl, hbB, c0, c1, c2, c3, HTK⟩ := tok_at hrd61 hkn
              obtain ⟨b', off', t', rfl, hbB', e0, e1, e2, e3, HTK'⟩ := tok_at hrd71 hkn
              have ht := HMT.out k
              have hk' := HMK.out k
              rw [HTK.out, HTK'.out] at ht hk'
              rw [ht] at c3
              rw [hk'] at c0
              obtain ⟨T', hT'⟩ : ∃ x, x = (⟨t'.t.toArray⟩ : ByteArray) := ⟨_, rfl⟩
              rw [← hT'] at c3 e3
              have hns := fun W => run_neqS0 T' W
              have j0 : (0 : Int) ≤ (k : Int) := by omega
              have j1 : (k : Int) < (n6 : Int) := by omega
              clear HTK HTK' ht hk' hT'
              go_wp2
              go_quiet (fail)
              go_wp2
              go_roundw
              case rel => exact ⟨k + 1, _, by omega, by go_num, hide rfl⟩
              case measure => simp [intOf]; omega
            · go_wp2
              go_ret
              exact ⟨rfl, below_drewN hbw1 _⟩
  · have hD := fun W (h : Tabs W) => cut_any s W h hs
    obtain ⟨a1, h1⟩ : ∃ x, x = (cutR s.data.toList).1.1 := ⟨_, rfl⟩
    obtain ⟨a2, h2⟩ : ∃ x, x = (cutR s.data.toList).1.2 := ⟨_, rfl⟩
    rw [← h1] at hq
    simp only [← h1, ← h2] at hD
    have hfa := fEq_ne (b := a2) hq
    have HD := hide hD
    clear hD hq h1 h2 hT hs
    go_enter Tryd.func5, Tryd.ntmps5
    go_wp2_with fail
    refine (cutex_any _ HT.out).mono ?_
    rintro e w1 ⟨rfl, hb1⟩
    go_wp2_with fail
    refine (joined_any _ (tabs_keep HT.out hb1 (Nat.le_refl _))).mono ?_
    rintro e w2 ⟨rfl, hb2⟩
    have hbw2 : Below w.heap.size w w2 := hb1.trans (hb2.mono hb1.size)
    clear hb1 hb2
    go_wp2_with fail
    refine (HD.out _ (tabs_keep HT.out hbw2 (Nat.le_refl _))).mono ?_
    rintro e w3 ⟨v3, rfl, hv3, hb3⟩
    have hbw : Below w.heap.size w w3 := hbw2.trans (hb3.mono hbw2.size)
    clear hv3 hb3
    go_wp2
    go_ret
    exact ⟨rfl, by have := hbw.size; go_grown⟩
end Go.Proofs.YtcchpijadlgagaaDoor
