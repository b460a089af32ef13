/- The reference's Bytes: code points encoded. -/
import Derived.Test.YtcchpijadlgagaaDoorTxE
namespace Go.Proofs.YtcchpijadlgagaaDoor
open Go.RowKit Gm
set_option linter.unusedSimpArgs false
set_option maxRecDepth 100000 in
set_option maxHeartbeats 2000000 in
theorem rbytes_any (A : Option Addr) (n c : Nat) (ps : List Int) (w : World) (B : Nat) (hn : ps.length = n) (hl : n ≤ 100000) (hB : B ≤ w.heap.size) (h : Rd w B 1 A n (intCell ps)) (ha : allS ps) :
    Calls Tryd.prog 43 #[.slice A n c] w fun e w' => e = .returned (.string ⟨(encL ps).toArray⟩) ∧ Below w.heap.size w w' := by
  obtain ⟨i0, hi0, hz0, hz1, hz2⟩ := info_parts byte_info
  have HL := hide hn
  have HA := hide ha
  clear hn ha
  go_enter Tryd.func43, Tryd.ntmps43
  go_wp2
  go_loopw [8, 3] (fun iv v wr => ∃ (k m : Nat), k ≤ n ∧ m ≤ 4 * k ∧ iv = .int .i64 k ∧ wr.ownsRow w.heap.size 5 1 v m (Lib.byteCells (encL (ps.take k))) ∧ Below w.heap.size w wr) (fun iv _ _ => n - (intOf iv).toNat)
  case atStart => exact ⟨0, 0, by omega, by omega, rfl, World.ownsRow_nil _ _ _ _, Below.refl _ _⟩
  case round =>
    obtain ⟨k, m, hk, hm, rfl, hown, hbw⟩ := hrel
    by_cases hkn : k < n
    · obtain ⟨b, off, rfl, hB2, hc1⟩ := (h.below hbw hB).at1 hkn
      clear h
      have hbz : b < wr.heap.size := by have := hbw.size; omega
      have hs := HA.out _ (getI_mem (by rw [HL.out]; exact hkn : k < ps.length))
      have hp := cells_push (l := ps) (k := k) (by rw [HL.out]; exact hkn) rfl
      obtain ⟨p, hp'⟩ : ∃ p, p = ps.getD k 0 := ⟨_, rfl⟩
      simp only [intCell, ← hp'] at hc1
      rw [← hp'] at hs hp
      have hsc := scal_iff.1 hs
      have hlow : ∀ k, u3.ownBlock = some k → w.heap.size ≤ k := fun k hk => (hown.lt k hk).1
      clear hs hp'
      have hcases : (0 ≤ p ∧ p < 128) ∨ (128 ≤ p ∧ p < 2048) ∨ ((2048 ≤ p ∧ p < 65536) ∧ ((2048 ≤ p ∧ p < 55296) ∨ (57343 < p ∧ p ≤ 65535))) ∨ (65536 ≤ p ∧ p ≤ 1114111) := by omega
      clear hsc
      rcases hcases with ⟨d0, d1⟩ | ⟨d0, d1⟩ | ⟨⟨d0, d1⟩, d2⟩ | ⟨d0, d1⟩
      · have hrc : Lib.runeCells p = [.int .u8 p] := by unfold Lib.runeCells; rw [Lib.encodeRuneZ_one (by omega) (by omega)]; rfl
        rw [hrc] at hp
        have HP := hide hp
        have HW := hide (show wid p = 1 by unfold wid; rw [if_pos (by omega)])
        clear hp hrc 
        go_wp2_with (first
          | (go_at_call 37; refine (rwidth_at _ _ HW.out _).mono ?_; rintro e w' ⟨rfl, rfl⟩)
          | (at_builtin; refine wpList_append_own _ rfl (.tmp 37) (.tmp 40) 52 rfl w.heap.size 5 i0 _ 1 1 Tryd.underlying52 hi0 hz0 hz1 hz2 rfl (by omega) _ m _ rfl (hown.alloc _) ⟨wr.heap.size, 0, none⟩ 1 1 [.int .u8 p] rfl rfl (World.news_of_block (cs := #[.int .u8 p]) (t := 5) (fr := (0, 0)) (Blk.at_ (by simp))) (by simp [Value.oneCell']) (by simp only [maxLen]; omega) (by omega) (by have := hbw.size; simp; omega) ?_; intro v' w2 hown2 hg2 _))
        go_roundw
        case rel =>
          refine ⟨k + 1, m + 1, by omega, by omega, by go_num, by rw [HP.out]; exact hown2, ?_⟩
          exact (hbw.alloc hbw.size _).grown hg2 (by have := hbw.size; simp; omega) (fun k hk => hlow _ hk)
        case measure => simp [intOf]; omega
      · have hrc : Lib.runeCells p = [.int .u8 (192 + p / 64), .int .u8 (128 + p % 64)] := by unfold Lib.runeCells; rw [Lib.encodeRuneZ_two (by omega) (by omega)]; rfl
        rw [hrc] at hp
        have HP := hide hp
        have HW := hide (show wid p = 2 by unfold wid; rw [if_neg (by omega), if_pos (by omega)])
        clear hp hrc 
        go_wp2_with (first
          | (go_at_call 37; refine (rwidth_at _ _ HW.out _).mono ?_; rintro e w' ⟨rfl, rfl⟩)
          | (at_builtin; refine wpList_append_own _ rfl (.tmp 44) (.tmp 53) 52 rfl w.heap.size 5 i0 _ 1 1 Tryd.underlying52 hi0 hz0 hz1 hz2 rfl (by omega) _ m _ rfl (hown.alloc _) ⟨wr.heap.size, 0, none⟩ 2 2 [.int .u8 (192 + p / 64), .int .u8 (128 + p % 64)] rfl rfl (World.news_of_block (cs := #[.int .u8 (192 + p / 64), .int .u8 (128 + p % 64)]) (t := 5) (fr := (0, 0)) (Blk.at_ (by simp))) (by simp [Value.oneCell']) (by simp only [maxLen]; omega) (by omega) (by have := hbw.size; simp; omega) ?_; intro v' w2 hown2 hg2 _))
        go_roundw
        case rel =>
          refine ⟨k + 1, m + 2, by omega, by omega, by go_num, by rw [HP.out]; exact hown2, ?_⟩
          exact (hbw.alloc hbw.size _).grown hg2 (by have := hbw.size; simp; omega) (fun k hk => hlow _ hk)
        case measure => simp [intOf]; omega
      · have hrc : Lib.runeCells p = [.int .u8 (224 + p / 4096), .int .u8 (128 + p / 64 % 64), .int .u8 (128 + p % 64)] := by unfold Lib.runeCells; rw [Lib.encodeRuneZ_three d2]; rfl
        rw [hrc] at hp
        have HP := hide hp
        have HW := hide (show wid p = 3 by unfold wid; rw [if_neg (by omega), if_neg (by omega), if_pos (by omega)])
        clear hp hrc d2
        go_wp2_with (first
          | (go_at_call 37; refine (rwidth_at _ _ HW.out _).mono ?_; rintro e w' ⟨rfl, rfl⟩)
          | (at_builtin; refine wpList_append_own _ rfl (.tmp 57) (.tmp 71) 52 rfl w.heap.size 5 i0 _ 1 1 Tryd.underlying52 hi0 hz0 hz1 hz2 rfl (by omega) _ m _ rfl (hown.alloc _) ⟨wr.heap.size, 0, none⟩ 3 3 [.int .u8 (224 + p / 4096), .int .u8 (128 + p / 64 % 64), .int .u8 (128 + p % 64)] rfl rfl (World.news_of_block (cs := #[.int .u8 (224 + p / 4096), .int .u8 (128 + p / 64 % 64), .int .u8 (128 + p % 64)]) (t := 5) (fr := (0, 0)) (Blk.at_ (by simp))) (by simp [Value.oneCell']) (by simp only [maxLen]; omega) (by omega) (by have := hbw.size; simp; omega) ?_; intro v' w2 hown2 hg2 _))
        go_roundw
        case rel =>
          refine ⟨k + 1, m + 3, by omega, by omega, by go_num, by rw [HP.out]; exact hown2, ?_⟩
          exact (hbw.alloc hbw.size _).grown hg2 (by have := hbw.size; simp; omega) (fun k hk => hlow _ hk)
        case measure => simp [intOf]; omega
      · have hrc : Lib.runeCells p = [.int .u8 (240 + p / 262144), .int .u8 (128 + p / 4096 % 64), .int .u8 (128 + p / 64 % 64), .int .u8 (128 + p % 64)] := by unfold Lib.runeCells; rw [Lib.encodeRuneZ_four (by omega) (by omega)]; rfl
        rw [hrc] at hp
        have HP := hide hp
        have HW := hide (show wid p = 4 by unfold wid; rw [if_neg (by omega), if_neg (by omega), if_neg (by omega)])
        clear hp hrc 
        go_wp2_with (first
          | (go_at_call 37; refine (rwidth_at _ _ HW.out _).mono ?_; rintro e w' ⟨rfl, rfl⟩)
          | (at_builtin; refine wpList_append_own _ rfl (.tmp 14) (.tmp 33) 52 rfl w.heap.size 5 i0 _ 1 1 Tryd.underlying52 hi0 hz0 hz1 hz2 rfl (by omega) _ m _ rfl (hown.alloc _) ⟨wr.heap.size, 0, none⟩ 4 4 [.int .u8 (240 + p / 262144), .int .u8 (128 + p / 4096 % 64), .int .u8 (128 + p / 64 % 64), .int .u8 (128 + p % 64)] rfl rfl (World.news_of_block (cs := #[.int .u8 (240 + p / 262144), .int .u8 (128 + p / 4096 % 64), .int .u8 (128 + p / 64 % 64), .int .u8 (128 + p % 64)]) (t := 5) (fr := (0, 0)) (Blk.at_ (by simp))) (by simp [Value.oneCell']) (by simp only [maxLen]; omega) (by omega) (by have := hbw.size; simp; omega) ?_; intro v' w2 hown2 hg2 _))
        go_roundw
        case rel =>
          refine ⟨k + 1, m + 4, by omega, by omega, by go_num, by rw [HP.out]; exact hown2, ?_⟩
          exact (hbw.alloc hbw.size _).grown hg2 (by have := hbw.size; simp; omega) (fun k hk => hlow _ hk)
        case measure => simp [intOf]; omega
    · have he : encL (ps.take k) = encL ps := by rw [List.take_of_length_le (by rw [HL.out]; omega)]
      rw [he] at hown
      have hcv := str_of_row hown
      clear he hown
      go_wp2
      go_ret
      exact ⟨rfl, hbw⟩
end Go.Proofs.YtcchpijadlgagaaDoor
