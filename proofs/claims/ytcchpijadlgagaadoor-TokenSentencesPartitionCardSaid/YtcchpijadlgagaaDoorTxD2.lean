/- The reference's Points and letters.Decode: the code points of a text. -/
import Derived.Test.YtcchpijadlgagaaDoorTxD
import Derived.Lib.Strings
namespace Gm
open Go Go.RowKit
theorem tabs_keep {g3 g4 : Nat} {w w' : World} (h : Lib.Utf8Tabs g3 g4 w) {B : Nat} (hb : Below B w w') (hB : w.heap.size ≤ B) : Lib.Utf8Tabs g3 g4 w' := by
  have hk : ∀ {b o : Nat} {v : Value}, w.cell? ⟨b, o, none⟩ = some v → w'.cell? ⟨b, o, none⟩ = some v := fun {b o v} hc => keep_cell hb hc (by have := World.block_lt_of_cell? w _ hc; simp at this; omega)
  exact ⟨fun c hc => hk (h.1 c hc), fun i hi => ⟨hk (h.2 i hi).1, hk (h.2 i hi).2⟩⟩
theorem decodeGo_tail (s : ByteArray) (i : Nat) (h : i < s.size) : Lib.decodeGo (s.extract i s.size) = dec1 (s.data.toList.drop i) := by
  have hd : (s.extract i s.size).data.toList = s.data.toList.drop i := by
    rw [Lib.extract_data, List.take_of_length_le (by simp)]
  have hz : (s.extract i s.size).size ≠ 0 := by
    have := congrArg List.length hd
    simp at this
    have e : (s.extract i s.size).size = (s.extract i s.size).data.size := rfl
    rw [ByteArray.size_extract]; omega
  unfold Lib.decodeGo
  rw [if_neg hz, decode_drop, hd, List.drop_zero]
end Gm
namespace Go.Proofs.YtcchpijadlgagaaDoor
open Go.RowKit Gm
set_option linter.unusedSimpArgs false
theorem rpoints_any (s : ByteArray) (w : World) (hs : s.size ≤ maxLen) :
    Calls Tryd.prog 20 #[.string s] w fun e w' => ∃ v, e = .returned (.tuple #[v, .agg #[.int .i64 (decR s.data.toList).1.1, .int .i64 (decR s.data.toList).1.2]]) ∧
      w'.ownsRow w.heap.size 3 1 v (decR s.data.toList).2.length (intRow (decR s.data.toList).2) ∧ Below w.heap.size w w' := by
  have hL : s.data.toList.length = s.size := by simp
  by_cases h : 4000 < s.size
  · have e : decR s.data.toList = ((1, -1), []) := by unfold decR; rw [if_pos (by omega)]
    rw [e]
    refine (rpoints_large s w h hs).mono ?_
    rintro e w' ⟨rfl, hb⟩
    exact ⟨_, rfl, World.ownsRow_nil _ _ _ _, hb⟩
  · exact rpoints_small s w (by omega) _ (by unfold decR; rw [if_neg (by omega)])
theorem drune_at (s : ByteArray) (i : Nat) (h : i < s.size) (w : World) (hT : Lib.Utf8Tabs 0 1 w) :
    Calls Tryd.prog 39 #[.string (s.extract i s.size)] w fun e w' => e = .returned (.tuple #[.int .i32 (dec1 (s.data.toList.drop i)).1, .int .i64 (dec1 (s.data.toList.drop i)).2]) ∧ Below w.heap.size w w' := by
  have := Tryd.utf8_DecodeRuneInString (s.extract i s.size) w hT
  rw [decodeGo_tail s i h] at this
  exact this
theorem decode_large (s : ByteArray) (w : World) (h : 4000 < s.size) (hs : s.size ≤ maxLen) :
    Calls Tryd.prog 25 #[.string s] w fun e w' => e = .returned (.tuple #[.slice none 0 0, .agg #[.int .i64 1, .int .i64 (-1)]]) ∧ Below w.heap.size w w' := by
  unfold maxLen at hs
  go_enter Tryd.func25, Tryd.ntmps25
  go_wp2_with fail
  refine (lfault_any _ _ _).mono ?_
  rintro e w1 ⟨rfl, hb1⟩
  have hz : w.heap.size < w1.heap.size := by have := hb1.size; simp at this; omega
  have q0 : w1.cell? ⟨w.heap.size, 0, none⟩ = some (.int .i64 0) := keep_cell hb1 (by simp) (by simp)
  have q1 : w1.cell? ⟨w.heap.size, 1, none⟩ = some (.int .i64 0) := keep_cell hb1 (by simp) (by simp)
  have f0 : w1.frozen? ⟨w.heap.size, 0, none⟩ = false := keep_free hb1 (by simp) (by simp)
  have f1 : w1.frozen? ⟨w.heap.size, 1, none⟩ = false := keep_free hb1 (by simp) (by simp)
  have hbw : Below w.heap.size w w1 := ((Below.refl _ _).alloc (Nat.le_refl _) _).trans (hb1.mono (by simp))
  go_wp2
  exact bodyPost_ret (v := .tuple #[.slice none 0 0, .agg #[.int .i64 1, .int .i64 (-1)]]) (by simp [results, Tryd.results25, go_sem, q0, q1, f0, f1, hz]) rfl ⟨rfl, by go_grown⟩
set_option maxHeartbeats 1000000 in
theorem decode_small (s : ByteArray) (w : World) (hT : Lib.Utf8Tabs 0 1 w) (h : s.size ≤ 4000) (R : (Int × Int) × List Int) (hR : R = decGo s.data.toList (s.data.toList.length + 1) 0 []) :
    Calls Tryd.prog 25 #[.string s] w fun e w' => ∃ v, e = .returned (.tuple #[v, .agg #[.int .i64 R.1.1, .int .i64 R.1.2]]) ∧ w'.ownsRow w.heap.size 3 1 v R.2.length (intRow R.2) ∧ Below w.heap.size w w' := by
  obtain ⟨i0, hi0, hz0, hz1, hz2⟩ := info_parts int_info
  have hL : s.data.toList.length = s.size := by simp
  have HL := hide hL
  have HR := hide hR
  have HT := hide hT
  clear hR hL hT
  go_enter Tryd.func25, Tryd.ntmps25
  go_wp2
  go_loopw [5, 4] (fun iv v wr => ∃ (i f : Nat) (acc : List Int), i ≤ s.size + 4 ∧ s.size < f + i ∧ acc.length ≤ i ∧ iv = .int .i64 i ∧ wr.ownsRow (w.heap.size + 1) 3 1 v acc.length (intRow acc) ∧
      Blk wr w.heap.size 25 #[.int .i64 0, .int .i64 0] ∧ Below w.heap.size w wr ∧ Hid (R = decGo s.data.toList f i acc)) (fun iv _ _ => s.size - (intOf iv).toNat)
  case atStart => exact ⟨0, _, [], by omega, by rw [← HL.out]; omega, by simp, rfl, World.ownsRow_nil _ _ _ _, Blk.new _ _ _, by go_grown, HR⟩
  case round =>
    clear HR
    obtain ⟨i, f, acc, hi, hf, hacc, rfl, hown, bx, hbw, HR⟩ := hrel
    have q0 : wr.cell? ⟨w.heap.size, 0, none⟩ = some (.int .i64 0) := bx.cell 0
    have q1 : wr.cell? ⟨w.heap.size, 1, none⟩ = some (.int .i64 0) := bx.cell 1
    have f0 : wr.frozen? ⟨w.heap.size, 0, none⟩ = false := bx.frozen 0
    have f1 : wr.frozen? ⟨w.heap.size, 1, none⟩ = false := bx.frozen 1
    have hz := bx.lt
    by_cases hlt : i < s.size
    · have hl' : i < s.data.toList.length := by rw [HL.out]; exact hlt
      obtain ⟨f, rfl⟩ : ∃ f', f = f' + 1 := ⟨f - 1, by omega⟩
      have HO := hide (drune_at s i hlt wr (tabs_keep HT.out hbw (Nat.le_refl _)))
      by_cases hd : dec1 (s.data.toList.drop i) = (65533, 1)
      · have he := HR.out.trans (decGo_bad hl' hd)
        have HO := HO.out
        rw [hd] at HO
        have HO := hide HO
        have HE := hide he
        clear he HR hl' hd
        go_wp2_with fail
        refine HO.out.mono ?_
        clear HO
        rintro e w1 ⟨rfl, hb1⟩
        have hz1' : w.heap.size < w1.heap.size := by have := hb1.size; omega
        have q0 := keep_cell hb1 q0 hz
        have q1 := keep_cell hb1 q1 hz
        have f0 := keep_free hb1 f0 hz
        have f1 := keep_free hb1 f1 hz
        have hbw2 : Below w.heap.size w w1 := hbw.trans (hb1.mono (by omega))
        have e1 : ((65533 : Nat) : Int) = 65533 := rfl
        have e2 : ((1 : Nat) : Int) = 1 := rfl
        go_wp2_with fail
        refine (lfault_any _ _ _).mono ?_
        rintro e w3 ⟨rfl, hb3⟩
        have hz3 : w.heap.size < w3.heap.size := by have := hb3.size; omega
        have q0 := keep_cell hb3 q0 hz1'
        have q1 := keep_cell hb3 q1 hz1'
        have f0 := keep_free hb3 f0 hz1'
        have f1 := keep_free hb3 f1 hz1'
        have hbw3 : Below w.heap.size w w3 := hbw2.trans (hb3.mono (by omega))
        go_wp2
        refine bodyPost_ret (v := .tuple #[.slice none 0 0, .agg #[.int .i64 5, .int .i64 i]]) (by simp [results, Tryd.results25, go_sem, q0, q1, f0, f1, hz3]) rfl ⟨.slice none 0 0, ?_, ?_, by go_grown⟩
        · rw [HE.out]
        · rw [HE.out]; exact World.ownsRow_nil _ _ _ _
      · have he := HR.out.trans (decGo_ok hl' hd)
        obtain ⟨g1, g2, g3⟩ := dec_step hl' hd
        have hpos := dec1_pos (s.data.toList.drop i)
        have hsc := scal_iff.1 g1
        have hne : ¬ ((dec1 (s.data.toList.drop i)).1 = 65533 ∧ (dec1 (s.data.toList.drop i)).2 = 1) := fun h => hd (Prod.ext h.1 h.2)
        obtain ⟨p, hp⟩ : ∃ p, p = (dec1 (s.data.toList.drop i)).1 := ⟨_, rfl⟩
        obtain ⟨n, hn⟩ : ∃ n, n = (dec1 (s.data.toList.drop i)).2 := ⟨_, rfl⟩
        have HO := HO.out
        rw [← hp, ← hn] at he HO hne
        rw [← hp] at hsc g2
        rw [← hn] at hpos g2
        have hbd := wid_bd p
        have HO := hide HO
        have HE := hide he
        have hp0 : p ≤ 1114111 := by omega
        have hn4 : n ≤ 4 := by omega
        clear he HR hl' g1 g3 hp hn hd hbd g2 hsc
        go_wp2_with fail
        refine HO.out.mono ?_
        clear HO
        rintro e w1 ⟨rfl, hb1⟩
        have hz1' : w.heap.size < w1.heap.size := by have := hb1.size; omega
        have bx := bx.below hb1 hz
        have hbw2 : Below w.heap.size w w1 := hbw.trans (hb1.mono (by omega))
        have hown := own_below hown hb1 (Nat.le_refl _)
        have hlow : ∀ k, u4.ownBlock = some k → w.heap.size + 1 ≤ k := fun k hk => (hown.lt k hk).1
        clear q0 q1 f0 f1 hb1
        by_cases hr : p = 65533
        · have hn1 : 1 < n := by
            rcases Nat.lt_or_ge 1 n with h | h
            · exact h
            · exact absurd ⟨hr, by omega⟩ hne
          subst hr
          clear hne
          go_wp2_with (at_builtin; refine wpList_append_own _ rfl (.tmp 31) (.tmp 34) 43 rfl (w.heap.size + 1) 3 i0 _ 1 8 Tryd.underlying43 hi0 hz0 hz1 hz2 rfl (by omega) _ acc.length _ rfl (hown.alloc _) ⟨w1.heap.size, 0, none⟩ 1 1 [.int .i64 65533] rfl rfl (World.news_of_block (cs := #[.int .i64 65533]) (t := 3) (fr := (0, 0)) (Blk.at_ (by simp))) (by simp [Value.oneCell']) (by simp only [maxLen]; omega) (by omega) (by simp; omega) ?_; intro v' w2 hown2 hg2 _)
          go_roundw
          case rel => 
            refine ⟨i + n, f, acc ++ [((65533 : Nat) : Int)], by omega, by omega, by simp; omega, by go_num, ?_, ?_, ?_, HE⟩
            · rw [intRow_append, List.length_append]; exact hown2
            · exact (bx.alloc _).grown hg2 (fun e => by have := hlow _ e.symm; omega)
            · exact (hbw2.alloc hbw2.size _).grown hg2 (by simp; omega) (fun k hk => by have := hlow _ hk; omega)
          case measure => simp [intOf]; omega
        · have hr' : ((p : Int) == 65533) = false := by simp; omega
          clear hne hr
          go_wp2_with (at_builtin; refine wpList_append_own _ rfl (.tmp 31) (.tmp 34) 43 rfl (w.heap.size + 1) 3 i0 _ 1 8 Tryd.underlying43 hi0 hz0 hz1 hz2 rfl (by omega) _ acc.length _ rfl (hown.alloc _) ⟨w1.heap.size, 0, none⟩ 1 1 [.int .i64 p] rfl rfl (World.news_of_block (cs := #[.int .i64 p]) (t := 3) (fr := (0, 0)) (Blk.at_ (by simp))) (by simp [Value.oneCell']) (by simp only [maxLen]; omega) (by omega) (by simp; omega) ?_; intro v' w2 hown2 hg2 _)
          go_roundw
          case rel => 
            refine ⟨i + n, f, acc ++ [(p : Int)], by omega, by omega, by simp; omega, by go_num, ?_, ?_, ?_, HE⟩
            · rw [intRow_append, List.length_append]; exact hown2
            · exact (bx.alloc _).grown hg2 (fun e => by have := hlow _ e.symm; omega)
            · exact (hbw2.alloc hbw2.size _).grown hg2 (by simp; omega) (fun k hk => by have := hlow _ hk; omega)
          case measure => simp [intOf]; omega
    · have he := HR.out.trans (decGo_end (f := f) (acc := acc) (by rw [HL.out]; exact hlt))
      have HE := hide he
      clear he HR
      go_wp2
      refine bodyPost_ret (v := .tuple #[u4, .agg #[.int .i64 0, .int .i64 0]]) (by simp [results, Tryd.results25, go_sem, q0, q1, f0, f1, hz]) rfl ⟨u4, ?_, ?_, by go_grown⟩
      · rw [HE.out]
      · rw [HE.out]; exact own_mono (ownsRow_setCell_below (ownsRow_setCell_below hown (a := ⟨w.heap.size, 0, none⟩) (by simp) _) (a := ⟨w.heap.size, 1, none⟩) (by simp) _) (by omega)
theorem decode_any (s : ByteArray) (w : World) (hT : Lib.Utf8Tabs 0 1 w) (hs : s.size ≤ maxLen) :
    Calls Tryd.prog 25 #[.string s] w fun e w' => ∃ v, e = .returned (.tuple #[v, .agg #[.int .i64 (decR s.data.toList).1.1, .int .i64 (decR s.data.toList).1.2]]) ∧
      w'.ownsRow w.heap.size 3 1 v (decR s.data.toList).2.length (intRow (decR s.data.toList).2) ∧ Below w.heap.size w w' := by
  have hL : s.data.toList.length = s.size := by simp
  by_cases h : 4000 < s.size
  · have e : decR s.data.toList = ((1, -1), []) := by unfold decR; rw [if_pos (by omega)]
    rw [e]
    refine (decode_large s w h hs).mono ?_
    rintro e w' ⟨rfl, hb⟩
    exact ⟨_, rfl, World.ownsRow_nil _ _ _ _, hb⟩
  · exact decode_small s w hT (by omega) _ (by unfold decR; rw [if_neg (by omega)])
end Go.Proofs.YtcchpijadlgagaaDoor
