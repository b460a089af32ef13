/- The reference's one: reads one code point. -/
import Derived.Test.YtcchpijadlgagaaDoorTxC4
import Derived.Test.YtcchpijadlgagaaDoorTxP2
namespace Go.Proofs.YtcchpijadlgagaaDoor
open Go.RowKit Gm
set_option linter.unusedSimpArgs false
theorem run_idx (s : ByteArray) (i c : Nat) (h : i < s.size) (hc : c = bt s.data.toList i) (w : World) : (Instr.index 9 (.string s) (.int .i64 (i : Int))).run Tryd.prog w = .ok (.int .u8 (c : Int)) w := by
  rw [run_index_string w _ s .i64 i Tryd.underlying9, dif_pos ⟨by omega, by omega⟩, hc]
  simp only [Int.toNat_natCast]
  rw [bt_get s i h]
theorem rscalar_at (p : Int) (b : Bool) (hb : scal p = b) (w : World) :
    Calls Tryd.prog 47 #[.int .i64 p] w fun e w' => e = .returned (.bool b) ∧ w = w' := by
  subst hb; exact rscalar_any p w
theorem rwidth_at (p q : Int) (hb : wid p = q) (w : World) :
    Calls Tryd.prog 37 #[.int .i64 p] w fun e w' => e = .returned (.int .i64 q) ∧ w = w' := by
  subst hb; exact rwidth_any p w
set_option maxRecDepth 100000 in
set_option maxHeartbeats 1000000 in
theorem one_4 (s : ByteArray) (i : Nat) (w : World) (hi : i < s.size) (hs : s.size ≤ 1000000) (c : Nat) (hc : c = bt s.data.toList i) (g1 : 240 ≤ c) (g2 : c < 256) :
    Calls Tryd.prog 36 #[.string s, .int .i64 i] w fun e w' => e = .returned (.int .i64 (if s.size - i < 4 then -1 else oneGo (s.data.toList.drop i) 4 3 1 ((c : Int) - 240))) ∧ w = w' := by
  have hix := run_idx s i c hi hc
  have HC := hide hc
  clear hc
  by_cases hlen : s.size - i < 4
  · rw [if_pos hlen]
    have hl : s.size < i + 4 := by omega
    clear hlen
    go_enter Tryd.func36, Tryd.ntmps36
    go_wp2
    go_ret
    exact ⟨rfl, rfl⟩
  · rw [if_neg hlen]
    have hl : i + 4 ≤ s.size := by omega
    clear hlen
    obtain ⟨tot, htot⟩ : ∃ x, x = oneGo (s.data.toList.drop i) 4 3 1 ((c : Int) - 240) := ⟨_, rfl⟩
    rw [← htot]
    have HT := hide htot
    clear htot
    go_enter Tryd.func36, Tryd.ntmps36
    go_wp2
    clear hix
    go_loop [8, 7] (fun kv pv => ∃ (k m : Nat) (p : Int), 1 ≤ k ∧ k + m = 4 ∧ kv = .int .i64 k ∧ pv = .int .i64 p ∧ 0 ≤ p ∧ (p < 128 ∨ 1 < k ∧ p < 8192 ∨ 2 < k ∧ p < 524288 ∨ 3 < k ∧ p < 33554432) ∧ Hid (tot = oneGo (s.data.toList.drop i) 4 m k p)) (fun kv _ => 4 - (intOf kv).toNat)
    case atStart => exact ⟨1, 3, _, by omega, by omega, rfl, rfl, by omega, by omega, HT⟩
    case round =>
      obtain ⟨k, m, p, hk1, hkm, rfl, rfl, hp0, hp1, HR⟩ := hrel
      have hp2 : p < 33554432 := by omega
      rcases m with _ | m
      · obtain rfl : k = 4 := by omega
        clear hp1 hkm hk1 HT
        by_cases hsc : scal p = true
        · by_cases hw : wid p = 4
          · have HH := hide (HR.out.trans (if_pos ⟨hsc, hw⟩))
            have H1 := hide hsc
            have H2 := hide hw
            clear hsc hw HR
            go_wp2_with (first | (go_at_call 47; refine (rscalar_at _ _ H1.out _).mono ?_; rintro e w' ⟨rfl, rfl⟩) | (go_at_call 37; refine (rwidth_at _ _ H2.out _).mono ?_; rintro e w' ⟨rfl, rfl⟩))
            go_ret
            exact ⟨ret_i64 HH.out.symm, rfl⟩
          · have HH := hide (HR.out.trans (if_neg (fun h => hw h.2)))
            have H1 := hide hsc
            obtain ⟨q, hq⟩ : ∃ q, wid p = q := ⟨_, rfl⟩
            have hq2 : (q != 4) = true := by rw [← hq]; simpa using hw
            have H2 := hide hq
            clear hsc hw HR hq
            go_wp2_with (first | (go_at_call 47; refine (rscalar_at _ _ H1.out _).mono ?_; rintro e w' ⟨rfl, rfl⟩) | (go_at_call 37; refine (rwidth_at _ _ H2.out _).mono ?_; rintro e w' ⟨rfl, rfl⟩))
            go_ret
            exact ⟨ret_i64 HH.out.symm, rfl⟩
        · have HH := hide (HR.out.trans (if_neg (fun h => hsc h.1)))
          have H1 := hide (show scal p = false by simpa using hsc)
          clear hsc HR
          go_wp2_with (go_at_call 47; refine (rscalar_at _ _ H1.out _).mono ?_; rintro e w' ⟨rfl, rfl⟩)
          go_ret
          exact ⟨ret_i64 HH.out.symm, rfl⟩
      · obtain ⟨d, hd⟩ : ∃ d, d = bt s.data.toList (i + k) := ⟨_, rfl⟩
        have hix := run_idx s (i + k) d (by omega) hd
        have ec : ((i + k : Nat) : Int) = (i : Int) + (k : Int) := by omega
        rw [ec] at hix
        have hd2 : d < 256 := by rw [hd]; exact bt_lt _ _
        have he : tot = if d < 128 ∨ 191 < d then -1 else oneGo (s.data.toList.drop i) 4 m (k + 1) (p * 64 + d - 128) := by
          rw [HR.out, hd, ← bt_drop]; rfl
        clear ec hd HR HT
        by_cases hbad : d < 128 ∨ 191 < d
        · rw [if_pos hbad] at he
          have HE := hide he
          clear he
          rcases hbad with hbad | hbad
          all_goals go_wp2
          all_goals go_ret
          all_goals exact ⟨ret_i64 HE.out.symm, rfl⟩
        · rw [if_neg hbad] at he
          have HE := hide he
          clear he
          obtain ⟨q1, q2⟩ : 128 ≤ d ∧ d ≤ 191 := by omega
          clear hbad
          go_wp2
          go_round
          case rel => exact ⟨_, .int .i64 (p * 64 + d - 128), .int .i64 ((k : Int) + 1), ⟨k + 1, by omega, m, by omega, by go_num, p * 64 + d - 128, rfl, by omega, by omega, HE⟩, rfl, rfl, rfl⟩
          case measure => simp [intOf]; omega
set_option maxRecDepth 100000 in
set_option maxHeartbeats 1000000 in
theorem one_3 (s : ByteArray) (i : Nat) (w : World) (hi : i < s.size) (hs : s.size ≤ 1000000) (c : Nat) (hc : c = bt s.data.toList i) (g1 : 224 ≤ c) (g2 : c < 240) :
    Calls Tryd.prog 36 #[.string s, .int .i64 i] w fun e w' => e = .returned (.int .i64 (if s.size - i < 3 then -1 else oneGo (s.data.toList.drop i) 3 2 1 ((c : Int) - 224))) ∧ w = w' := by
  have hix := run_idx s i c hi hc
  have HC := hide hc
  clear hc
  by_cases hlen : s.size - i < 3
  · rw [if_pos hlen]
    have hl : s.size < i + 3 := by omega
    clear hlen
    go_enter Tryd.func36, Tryd.ntmps36
    go_wp2
    go_ret
    exact ⟨rfl, rfl⟩
  · rw [if_neg hlen]
    have hl : i + 3 ≤ s.size := by omega
    clear hlen
    obtain ⟨tot, htot⟩ : ∃ x, x = oneGo (s.data.toList.drop i) 3 2 1 ((c : Int) - 224) := ⟨_, rfl⟩
    rw [← htot]
    have HT := hide htot
    clear htot
    go_enter Tryd.func36, Tryd.ntmps36
    go_wp2
    clear hix
    go_loop [8, 7] (fun kv pv => ∃ (k m : Nat) (p : Int), 1 ≤ k ∧ k + m = 3 ∧ kv = .int .i64 k ∧ pv = .int .i64 p ∧ 0 ≤ p ∧ (p < 128 ∨ 1 < k ∧ p < 8192 ∨ 2 < k ∧ p < 524288 ∨ 3 < k ∧ p < 33554432) ∧ Hid (tot = oneGo (s.data.toList.drop i) 3 m k p)) (fun kv _ => 3 - (intOf kv).toNat)
    case atStart => exact ⟨1, 2, _, by omega, by omega, rfl, rfl, by omega, by omega, HT⟩
    case round =>
      obtain ⟨k, m, p, hk1, hkm, rfl, rfl, hp0, hp1, HR⟩ := hrel
      have hp2 : p < 33554432 := by omega
      rcases m with _ | m
      · obtain rfl : k = 3 := by omega
        clear hp1 hkm hk1 HT
        by_cases hsc : scal p = true
        · by_cases hw : wid p = 3
          · have HH := hide (HR.out.trans (if_pos ⟨hsc, hw⟩))
            have H1 := hide hsc
            have H2 := hide hw
            clear hsc hw HR
            go_wp2_with (first | (go_at_call 47; refine (rscalar_at _ _ H1.out _).mono ?_; rintro e w' ⟨rfl, rfl⟩) | (go_at_call 37; refine (rwidth_at _ _ H2.out _).mono ?_; rintro e w' ⟨rfl, rfl⟩))
            go_ret
            exact ⟨ret_i64 HH.out.symm, rfl⟩
          · have HH := hide (HR.out.trans (if_neg (fun h => hw h.2)))
            have H1 := hide hsc
            obtain ⟨q, hq⟩ : ∃ q, wid p = q := ⟨_, rfl⟩
            have hq2 : (q != 3) = true := by rw [← hq]; simpa using hw
            have H2 := hide hq
            clear hsc hw HR hq
            go_wp2_with (first | (go_at_call 47; refine (rscalar_at _ _ H1.out _).mono ?_; rintro e w' ⟨rfl, rfl⟩) | (go_at_call 37; refine (rwidth_at _ _ H2.out _).mono ?_; rintro e w' ⟨rfl, rfl⟩))
            go_ret
            exact ⟨ret_i64 HH.out.symm, rfl⟩
        · have HH := hide (HR.out.trans (if_neg (fun h => hsc h.1)))
          have H1 := hide (show scal p = false by simpa using hsc)
          clear hsc HR
          go_wp2_with (go_at_call 47; refine (rscalar_at _ _ H1.out _).mono ?_; rintro e w' ⟨rfl, rfl⟩)
          go_ret
          exact ⟨ret_i64 HH.out.symm, rfl⟩
      · obtain ⟨d, hd⟩ : ∃ d, d = bt s.data.toList (i + k) := ⟨_, rfl⟩
        have hix := run_idx s (i + k) d (by omega) hd
        have ec : ((i + k : Nat) : Int) = (i : Int) + (k : Int) := by omega
        rw [ec] at hix
        have hd2 : d < 256 := by rw [hd]; exact bt_lt _ _
        have he : tot = if d < 128 ∨ 191 < d then -1 else oneGo (s.data.toList.drop i) 3 m (k + 1) (p * 64 + d - 128) := by
          rw [HR.out, hd, ← bt_drop]; rfl
        clear ec hd HR HT
        by_cases hbad : d < 128 ∨ 191 < d
        · rw [if_pos hbad] at he
          have HE := hide he
          clear he
          rcases hbad with hbad | hbad
          all_goals go_wp2
          all_goals go_ret
          all_goals exact ⟨ret_i64 HE.out.symm, rfl⟩
        · rw [if_neg hbad] at he
          have HE := hide he
          clear he
          obtain ⟨q1, q2⟩ : 128 ≤ d ∧ d ≤ 191 := by omega
          clear hbad
          go_wp2
          go_round
          case rel => exact ⟨_, .int .i64 (p * 64 + d - 128), .int .i64 ((k : Int) + 1), ⟨k + 1, by omega, m, by omega, by go_num, p * 64 + d - 128, rfl, by omega, by omega, HE⟩, rfl, rfl, rfl⟩
          case measure => simp [intOf]; omega
set_option maxRecDepth 100000 in
set_option maxHeartbeats 1000000 in
theorem one_2 (s : ByteArray) (i : Nat) (w : World) (hi : i < s.size) (hs : s.size ≤ 1000000) (c : Nat) (hc : c = bt s.data.toList i) (g1 : 192 ≤ c) (g2 : c < 224) :
    Calls Tryd.prog 36 #[.string s, .int .i64 i] w fun e w' => e = .returned (.int .i64 (if s.size - i < 2 then -1 else oneGo (s.data.toList.drop i) 2 1 1 ((c : Int) - 192))) ∧ w = w' := by
  have hix := run_idx s i c hi hc
  have HC := hide hc
  clear hc
  by_cases hlen : s.size - i < 2
  · rw [if_pos hlen]
    have hl : s.size < i + 2 := by omega
    clear hlen
    go_enter Tryd.func36, Tryd.ntmps36
    go_wp2
    go_ret
    exact ⟨rfl, rfl⟩
  · rw [if_neg hlen]
    have hl : i + 2 ≤ s.size := by omega
    clear hlen
    obtain ⟨tot, htot⟩ : ∃ x, x = oneGo (s.data.toList.drop i) 2 1 1 ((c : Int) - 192) := ⟨_, rfl⟩
    rw [← htot]
    have HT := hide htot
    clear htot
    go_enter Tryd.func36, Tryd.ntmps36
    go_wp2
    clear hix
    go_loop [8, 7] (fun kv pv => ∃ (k m : Nat) (p : Int), 1 ≤ k ∧ k + m = 2 ∧ kv = .int .i64 k ∧ pv = .int .i64 p ∧ 0 ≤ p ∧ (p < 128 ∨ 1 < k ∧ p < 8192 ∨ 2 < k ∧ p < 524288 ∨ 3 < k ∧ p < 33554432) ∧ Hid (tot = oneGo (s.data.toList.drop i) 2 m k p)) (fun kv _ => 2 - (intOf kv).toNat)
    case atStart => exact ⟨1, 1, _, by omega, by omega, rfl, rfl, by omega, by omega, HT⟩
    case round =>
      obtain ⟨k, m, p, hk1, hkm, rfl, rfl, hp0, hp1, HR⟩ := hrel
      have hp2 : p < 33554432 := by omega
      rcases m with _ | m
      · obtain rfl : k = 2 := by omega
        clear hp1 hkm hk1 HT
        by_cases hsc : scal p = true
        · by_cases hw : wid p = 2
          · have HH := hide (HR.out.trans (if_pos ⟨hsc, hw⟩))
            have H1 := hide hsc
            have H2 := hide hw
            clear hsc hw HR
            go_wp2_with (first | (go_at_call 47; refine (rscalar_at _ _ H1.out _).mono ?_; rintro e w' ⟨rfl, rfl⟩) | (go_at_call 37; refine (rwidth_at _ _ H2.out _).mono ?_; rintro e w' ⟨rfl, rfl⟩))
            go_ret
            exact ⟨ret_i64 HH.out.symm, rfl⟩
          · have HH := hide (HR.out.trans (if_neg (fun h => hw h.2)))
            have H1 := hide hsc
            obtain ⟨q, hq⟩ : ∃ q, wid p = q := ⟨_, rfl⟩
            have hq2 : (q != 2) = true := by rw [← hq]; simpa using hw
            have H2 := hide hq
            clear hsc hw HR hq
            go_wp2_with (first | (go_at_call 47; refine (rscalar_at _ _ H1.out _).mono ?_; rintro e w' ⟨rfl, rfl⟩) | (go_at_call 37; refine (rwidth_at _ _ H2.out _).mono ?_; rintro e w' ⟨rfl, rfl⟩))
            go_ret
            exact ⟨ret_i64 HH.out.symm, rfl⟩
        · have HH := hide (HR.out.trans (if_neg (fun h => hsc h.1)))
          have H1 := hide (show scal p = false by simpa using hsc)
          clear hsc HR
          go_wp2_with (go_at_call 47; refine (rscalar_at _ _ H1.out _).mono ?_; rintro e w' ⟨rfl, rfl⟩)
          go_ret
          exact ⟨ret_i64 HH.out.symm, rfl⟩
      · obtain ⟨d, hd⟩ : ∃ d, d = bt s.data.toList (i + k) := ⟨_, rfl⟩
        have hix := run_idx s (i + k) d (by omega) hd
        have ec : ((i + k : Nat) : Int) = (i : Int) + (k : Int) := by omega
        rw [ec] at hix
        have hd2 : d < 256 := by rw [hd]; exact bt_lt _ _
        have he : tot = if d < 128 ∨ 191 < d then -1 else oneGo (s.data.toList.drop i) 2 m (k + 1) (p * 64 + d - 128) := by
          rw [HR.out, hd, ← bt_drop]; rfl
        clear ec hd HR HT
        by_cases hbad : d < 128 ∨ 191 < d
        · rw [if_pos hbad] at he
          have HE := hide he
          clear he
          rcases hbad with hbad | hbad
          all_goals go_wp2
          all_goals go_ret
          all_goals exact ⟨ret_i64 HE.out.symm, rfl⟩
        · rw [if_neg hbad] at he
          have HE := hide he
          clear he
          obtain ⟨q1, q2⟩ : 128 ≤ d ∧ d ≤ 191 := by omega
          clear hbad
          go_wp2
          go_round
          case rel => exact ⟨_, .int .i64 (p * 64 + d - 128), .int .i64 ((k : Int) + 1), ⟨k + 1, by omega, m, by omega, by go_num, p * 64 + d - 128, rfl, by omega, by omega, HE⟩, rfl, rfl, rfl⟩
          case measure => simp [intOf]; omega
set_option maxRecDepth 100000 in
set_option maxHeartbeats 1000000 in
theorem one_1 (s : ByteArray) (i : Nat) (w : World) (hi : i < s.size) (hs : s.size ≤ 1000000) (c : Nat) (hc : c = bt s.data.toList i) (g1 : 0 ≤ c) (g2 : c < 128) :
    Calls Tryd.prog 36 #[.string s, .int .i64 i] w fun e w' => e = .returned (.int .i64 (if s.size - i < 1 then -1 else oneGo (s.data.toList.drop i) 1 0 1 ((c : Int) - 0))) ∧ w = w' := by
  have hix := run_idx s i c hi hc
  have HC := hide hc
  clear hc
  by_cases hlen : s.size - i < 1
  · exfalso; omega
  · rw [if_neg hlen]
    have hl : i + 1 ≤ s.size := by omega
    clear hlen
    obtain ⟨tot, htot⟩ : ∃ x, x = oneGo (s.data.toList.drop i) 1 0 1 ((c : Int) - 0) := ⟨_, rfl⟩
    rw [← htot]
    have HT := hide htot
    clear htot
    go_enter Tryd.func36, Tryd.ntmps36
    go_wp2
    clear hix
    go_loop [8, 7] (fun kv pv => ∃ (k m : Nat) (p : Int), 1 ≤ k ∧ k + m = 1 ∧ kv = .int .i64 k ∧ pv = .int .i64 p ∧ 0 ≤ p ∧ (p < 128 ∨ 1 < k ∧ p < 8192 ∨ 2 < k ∧ p < 524288 ∨ 3 < k ∧ p < 33554432) ∧ Hid (tot = oneGo (s.data.toList.drop i) 1 m k p)) (fun kv _ => 1 - (intOf kv).toNat)
    case atStart => exact ⟨1, 0, _, by omega, by omega, rfl, rfl, by omega, by omega, HT⟩
    case round =>
      obtain ⟨k, m, p, hk1, hkm, rfl, rfl, hp0, hp1, HR⟩ := hrel
      have hp2 : p < 33554432 := by omega
      rcases m with _ | m
      · obtain rfl : k = 1 := by omega
        clear hp1 hkm hk1 HT
        by_cases hsc : scal p = true
        · by_cases hw : wid p = 1
          · have HH := hide (HR.out.trans (if_pos ⟨hsc, hw⟩))
            have H1 := hide hsc
            have H2 := hide hw
            clear hsc hw HR
            go_wp2_with (first | (go_at_call 47; refine (rscalar_at _ _ H1.out _).mono ?_; rintro e w' ⟨rfl, rfl⟩) | (go_at_call 37; refine (rwidth_at _ _ H2.out _).mono ?_; rintro e w' ⟨rfl, rfl⟩))
            go_ret
            exact ⟨ret_i64 HH.out.symm, rfl⟩
          · have HH := hide (HR.out.trans (if_neg (fun h => hw h.2)))
            have H1 := hide hsc
            obtain ⟨q, hq⟩ : ∃ q, wid p = q := ⟨_, rfl⟩
            have hq2 : (q != 1) = true := by rw [← hq]; simpa using hw
            have H2 := hide hq
            clear hsc hw HR hq
            go_wp2_with (first | (go_at_call 47; refine (rscalar_at _ _ H1.out _).mono ?_; rintro e w' ⟨rfl, rfl⟩) | (go_at_call 37; refine (rwidth_at _ _ H2.out _).mono ?_; rintro e w' ⟨rfl, rfl⟩))
            go_ret
            exact ⟨ret_i64 HH.out.symm, rfl⟩
        · have HH := hide (HR.out.trans (if_neg (fun h => hsc h.1)))
          have H1 := hide (show scal p = false by simpa using hsc)
          clear hsc HR
          go_wp2_with (go_at_call 47; refine (rscalar_at _ _ H1.out _).mono ?_; rintro e w' ⟨rfl, rfl⟩)
          go_ret
          exact ⟨ret_i64 HH.out.symm, rfl⟩
      · exfalso; omega
set_option maxRecDepth 100000 in
theorem one_bad (s : ByteArray) (i : Nat) (w : World) (hi : i < s.size) (_hs : s.size ≤ 1000000) (c : Nat) (hc : c = bt s.data.toList i) (g1 : 128 ≤ c) (g2 : c < 192) :
    Calls Tryd.prog 36 #[.string s, .int .i64 i] w fun e w' => e = .returned (.int .i64 (-1)) ∧ w = w' := by
  have hix := run_idx s i c hi hc
  clear hc
  go_enter Tryd.func36, Tryd.ntmps36
  go_wp2
  go_ret
  exact ⟨rfl, rfl⟩
theorem one_any (s : ByteArray) (i : Nat) (w : World) (hi : i < s.size) (hs : s.size ≤ 1000000) :
    Calls Tryd.prog 36 #[.string s, .int .i64 i] w fun e w' => e = .returned (.int .i64 (oneZ (s.data.toList.drop i))) ∧ w = w' := by
  have hl : (s.data.toList.drop i).length = s.size - i := by rw [List.length_drop]; simp
  have hne : s.data.toList.drop i ≠ [] := by
    intro h; rw [h] at hl; simp at hl; omega
  rw [← oneR_eq hne]
  unfold oneR
  have hb : bt (s.data.toList.drop i) 0 = bt s.data.toList i := bt_drop _ _ _
  have hlt := bt_lt s.data.toList i
  rw [hb, hl]
  by_cases c4 : 240 ≤ bt s.data.toList i
  · rw [if_pos c4]; exact one_4 s i w hi hs _ rfl c4 hlt
  · rw [if_neg c4]
    by_cases c3 : 224 ≤ bt s.data.toList i
    · rw [if_pos c3]; exact one_3 s i w hi hs _ rfl c3 (by omega)
    · rw [if_neg c3]
      by_cases c2 : 192 ≤ bt s.data.toList i
      · rw [if_pos c2]; exact one_2 s i w hi hs _ rfl c2 (by omega)
      · rw [if_neg c2]
        by_cases c1 : 128 ≤ bt s.data.toList i
        · rw [if_pos c1]; exact one_bad s i w hi hs _ rfl c1 (by omega)
        · rw [if_neg c1]
          have h := one_1 s i w hi hs _ rfl (Nat.zero_le _) (by omega)
          rw [if_neg (by omega)] at h
          have e : oneGo (s.data.toList.drop i) 1 0 1 ((bt s.data.toList i : Int) - 0) = bt s.data.toList i := by
            unfold oneGo; rw [Int.sub_zero, fin1 _ (by omega) (by omega)]
          rw [e] at h
          exact h
end Go.Proofs.YtcchpijadlgagaaDoor
