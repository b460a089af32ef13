/- The reference's Spans, walked. -/
import Derived.Test.YtcchpijadlgagaaDoorTsF
import Derived.Test.YtcchpijadlgagaaDoorTsS
namespace Go.Proofs.YtcchpijadlgagaaDoor
open Go.RowKit Gm
set_option linter.unusedSimpArgs false
set_option linter.unusedVariables false
/-- Where the last span ends. -/
def lastT (l : List (Nat × Nat)) : Nat := if 0 < l.length then (l.getD (l.length - 1) (0, 0)).2 else 0
theorem lastT_push (l : List (Nat × Nat)) (a b : Nat) : b = lastT (l ++ [(a, b)]) := by
  unfold lastT
  rw [if_pos (by simp)]
  simp [List.getD]
set_option maxRecDepth 100000 in
theorem rspan_bad (s : ByteArray) (w : World) (hs : s.size ≤ maxLen) (hq : (cutR s.data.toList).1.1 ≠ 0) :
    Calls Tryd.prog 15 #[.string s] w fun e w' => e = .returned (.tuple #[.slice none 0 0, .agg #[.int .i64 (cutR s.data.toList).1.1, .int .i64 (cutR s.data.toList).1.2]]) ∧ Below w.heap.size w w' := by
  have hne := fun a b c d W => run_neq_fault a b c d W
  have hD := tokens_any s (w.alloc (Obj.cells #[.int .i64 0, .int .i64 0] 25)) hs
  obtain ⟨a1, h1⟩ : ∃ x, x = (cutR s.data.toList).1.1 := ⟨_, rfl⟩
  obtain ⟨a2, h2⟩ : ∃ x, x = (cutR s.data.toList).1.2 := ⟨_, rfl⟩
  rw [← h1] at hq
  simp only [← h1, ← h2] at hD ⊢
  have hfa := fEq_ne (b := a2) hq
  have HD := hide hD
  clear hD hq h1 h2 hs
  go_enter Tryd.func15, Tryd.ntmps15
  go_wp2_with fail
  refine HD.out.mono ?_
  rintro e w1 ⟨v, rfl, hown, hb1⟩
  clear HD hown
  have hz1 : w.heap.size < w1.heap.size := by have := hb1.size; simp at this; omega
  have hbw : Below w.heap.size w w1 := ((Below.refl _ _).alloc (Nat.le_refl _) _).trans (hb1.mono (by simp))
  have bR := (Blk.new w 25 #[.int .i64 0, .int .i64 0]).below hb1 (by simp)
  go_wp2
  generalize hW : World.alloc _ _ = W0
  have hbw0 : Below w.heap.size w W0 := by rw [← hW]; exact hbw.alloc hbw.size _
  have bR0 : Blk W0 w.heap.size 25 #[.int .i64 0, .int .i64 0] := by rw [← hW]; exact bR.alloc _
  have bF0 : Blk W0 w1.heap.size 25 #[.int .i64 a1, .int .i64 a2] := by rw [← hW]; exact Blk.new _ _ _
  have q0 : W0.cell? ⟨w.heap.size, 0, none⟩ = some (.int .i64 0) := bR0.cell 0
  have q1 : W0.cell? ⟨w.heap.size, 1, none⟩ = some (.int .i64 0) := bR0.cell 1
  have q2 : W0.cell? ⟨w1.heap.size, 0, none⟩ = some (.int .i64 a1) := bF0.cell 0
  have q3 : W0.cell? ⟨w1.heap.size, 1, none⟩ = some (.int .i64 a2) := bF0.cell 1
  have f0 := bR0.frozen 0
  have f1 := bR0.frozen 1
  have hz := bR0.lt
  have hzf := bF0.lt
  clear bR hb1 hW bR0 bF0 hbw
  refine wp_quiet_tail_lit 2 (by kernel_rfl) (by kernel_rfl) ?_
  simp only [List.take_succ_cons, List.take_zero, List.drop_succ_cons, List.drop_zero]
  repeat (quiet_step (fail))
  refine wpQuiet_nil ?_
  intro _ hw'; obtain ⟨nq, hw''⟩ := hw'; subst hw''
  go_wp2
  exact bodyPost_ret (v := .tuple #[.slice none 0 0, .agg #[.int .i64 a1, .int .i64 a2]]) (by simp [results, Tryd.results15, go_sem, q0, q1, f0, f1, hz]) rfl ⟨rfl, by go_grown; exact below_drewN hbw0 _⟩
set_option maxRecDepth 100000 in
set_option maxHeartbeats 4000000 in
theorem rspan_ok (s : ByteArray) (w : World) (hs : s.size ≤ maxLen) (L : List Tok) (hq : cutR s.data.toList = ((0, 0), L)) (h300 : L.length ≤ 300) (hok : okToks L) :
    Calls Tryd.prog 15 #[.string s] w fun e w' => ∃ v, e = .returned (.tuple #[v, .agg #[.int .i64 0, .int .i64 0]]) ∧ w'.ownsRow w.heap.size 40 2 v (sens L).length (spRow (sens L)) ∧ Below w.heap.size w w' := by
  have hne := fun a b c d W => run_neq_fault a b c d W
  have hf0 : fEq 0 0 0 0 = true := rfl
  obtain ⟨it, ht0, ht1, ht2, ht3⟩ := info_parts span_info
  have hD := tokens_any s (w.alloc (Obj.cells #[.int .i64 0, .int .i64 0] 25)) hs
  rw [hq] at hD
  have HD := hide hD
  have HOK := hide hok
  obtain ⟨tot, htot⟩ : ∃ tot, tot = sens L := ⟨_, rfl⟩
  rw [← htot]
  obtain ⟨n, hn⟩ : ∃ n, n = L.length := ⟨_, rfl⟩
  rw [← hn] at h300
  have HN := hide hn.symm
  have HTOT := hide (show tot = senGo L (n + 1) 0 0 [] by rw [htot, hn]; rfl)
  clear hD hq htot hs hok hn
  go_enter Tryd.func15, Tryd.ntmps15
  go_wp2_with fail
  refine HD.out.mono ?_
  rintro e w1 ⟨v, rfl, hv1, hb1⟩
  clear HD
  obtain ⟨A, m, c, rfl, HM, hmc, hmb, hrd⟩ := hv1
  obtain rfl : m = n := by rw [← HM.out, ← HN.out]
  have hz1 : w.heap.size < w1.heap.size := by have := hb1.size; simp at this; omega
  have hbw : Below w.heap.size w w1 := ((Below.refl _ _).alloc (Nat.le_refl _) _).trans (hb1.mono (by simp))
  have bR := (Blk.new w 25 #[.int .i64 0, .int .i64 0]).below hb1 (by simp)
  clear hb1
  go_wp2
  generalize hW : World.alloc _ _ = W1
  have hb1 : Below w1.heap.size w1 W1 := by rw [← hW]; go_grown
  have hsz0 : w1.heap.size + 1 ≤ W1.heap.size := by rw [← hW]; simp
  clear hW
  go_loopg [20, 6] m (fun gk iv v wr => ∃ (k f a : Nat) (acc : List (Nat × Nat)), k + gk = m ∧ m < f + k ∧ acc.length ≤ k ∧ a ≤ k ∧ iv = .int .i64 k ∧ Hid (a = lastT acc) ∧ wr.ownsRow (w1.heap.size + 1) 40 2 v acc.length (spRow acc) ∧
      Below w1.heap.size w1 wr ∧ w1.heap.size + 1 ≤ wr.heap.size ∧ Hid (tot = senGo L f k a acc))
  case atStart => exact ⟨0, m + 1, 0, [], by omega, by omega, by simp, by omega, rfl, hide rfl, World.ownsRow_nil _ _ _ _, hb1, hsz0, HTOT⟩
  case round =>
    clear hb1 HTOT hsz0
    obtain ⟨k, f, a, acc, hkg, hf, hacc, hak, rfl, HL, hown, hb1, hsz, HR⟩ := hrel
    have hbwc : Below w.heap.size w wr := hbw.trans (hb1.mono hbw.size)
    obtain ⟨A0, c9, hv9, hnc9, hcm9⟩ := own_value hown
    subst hv9
    unfold maxLen at hcm9
    obtain ⟨z, hz⟩ : ∃ z, z = acc.length := ⟨_, rfl⟩
    rw [← hz] at hown hacc hnc9
    rw [← hz]
    have HZ := hide hz
    have HO := hide hown
    clear hown hz
    by_cases hkm : k < m
    · obtain ⟨f, rfl⟩ : ∃ f', f = f' + 1 := ⟨f - 1, by omega⟩
      have hkl : k < L.length := by rw [HN.out]; exact hkm
      have hE := behind_any _ L wr w1.heap.size hb1.size ⟨A, m, c, rfl, HM, hmc, hmb, hrd.below hb1 (Nat.le_refl _)⟩ HOK.out k hkl
      cases hB : endsB L k
      · rw [hB] at hE
        have HE := hide hE
        have HR2 := hide (HR.out.trans (senGo_no hkl hB))
        clear hE hB HR
        go_wp2_with fail
        refine HE.out.mono ?_
        rintro e w2 ⟨rfl, hb2⟩
        have hown2 := own_below HO.out hb2 (Nat.le_refl _)
        have hb12 : Below w1.heap.size w1 w2 := hb1.trans (hb2.mono hb1.size)
        have hsz2 : w1.heap.size + 1 ≤ w2.heap.size := by have := hb2.size; omega
        have HO2 := hide hown2
        clear hb2 hown2 HE HO
        go_wp2
        go_roundg (gk - 1)
        case measure => omega
        case rel => exact ⟨k + 1, f, a, acc, by omega, by omega, by rw [← HZ.out]; omega, by omega, by go_num, HL, by rw [← HZ.out]; exact HO2.out, hb12, hsz2, HR2⟩
      · rw [hB] at hE
        have HE := hide hE
        have HR2 := hide (HR.out.trans (senGo_yes hkl hB))
        have HROW := hide (spRow_one a (k + 1))
        clear hE hB HR
        go_wp2_with fail
        refine HE.out.mono ?_
        rintro e w2 ⟨rfl, hb2⟩
        have hown2 := own_below HO.out hb2 (Nat.le_refl _)
        have hb12 : Below w1.heap.size w1 w2 := hb1.trans (hb2.mono hb1.size)
        have hsz2 : w1.heap.size + 1 ≤ w2.heap.size := by have := hb2.size; omega
        have HO2 := hide hown2
        clear hb2 hown2 HE HO
        by_cases hz0 : z = 0
        · subst hz0
          have ha0 : a = 0 := by rw [HL.out]; unfold lastT; rw [← HZ.out]; rfl
          subst ha0
          go_wp2_with (at_builtin; refine wpList_append_own _ rfl (.tmp 36) (.tmp 41) 35 rfl (w1.heap.size + 1) 40 it _ 2 16 Tryd.underlying35 ht0 ht1 ht2 ht3 rfl (by omega) (.slice A0 0 c9) 0 _ rfl (HO2.out.alloc _) ⟨w2.heap.size, 0, none⟩ 1 1 [.int .i64 0, .int .i64 ((k : Int) + 1)] rfl rfl (World.news_of_block (cs := #[.int .i64 0, .int .i64 ((k : Int) + 1)]) (t := 40) (fr := (0, 0)) (Blk.at_ (by simp))) (by simp [Value.oneCell']) (by simp only [maxLen]; omega) (by omega) (by simp; omega) ?_; intro v' w6 hown6 hg6 _)
          go_roundg (gk - 1)
          case measure => omega
          case rel =>
            have hlow : ∀ k, (Value.slice A0 0 c9).ownBlock = some k → w1.heap.size + 1 ≤ k := fun k hk => (HO2.out.lt k hk).1
            refine ⟨k + 1, f, k + 1, acc ++ [(0, k + 1)], by omega, by omega, by simp; rw [← HZ.out]; omega, by omega, by go_num, hide (lastT_push _ _ _), ?_, ?_, ?_, HR2⟩
            · rw [List.length_append, ← HZ.out, spRow_append, HROW.out]; exact hown6
            · exact (hb12.alloc hb12.size _).grown hg6 (by simp; omega) (fun k hk => by have := hlow k hk; omega)
            · have := hg6.size; simp at this; omega
        · obtain ⟨y, rfl⟩ : ∃ y, z = y + 1 := ⟨z - 1, by omega⟩
          have hrow : Rd w2 w2.heap.size 2 A0 (y + 1) (spCell acc) := by
            have := Rd.of_own HO2.out (f := spCell acc) (by rw [HZ.out]; exact spRow_at acc)
            exact this
          obtain ⟨g, go, x1, y1, rfl, hgb, s0, s1, HSP⟩ := sp_at hrow (show y < y + 1 by omega)
          have ha1 : y1 = a := by
            rw [HL.out]; unfold lastT; rw [if_pos (by rw [← HZ.out]; omega), ← HZ.out, show y + 1 - 1 = y by omega, HSP.out]
          subst ha1
          have n0 : (0 : Int) ≤ ((y + 1 : Nat) : Int) - 1 := by omega
          have n1 : ((y + 1 : Nat) : Int) - 1 < ((y + 1 : Nat) : Int) := by omega
          have n2 : (((y + 1 : Nat) : Int) - 1).toNat = y := by omega
          clear hrow HSP
          go_wp2_with (at_builtin; refine wpList_append_own _ rfl (.tmp 36) (.tmp 41) 35 rfl (w1.heap.size + 1) 40 it _ 2 16 Tryd.underlying35 ht0 ht1 ht2 ht3 rfl (by omega) (.slice (some ⟨g, go, none⟩) (y + 1) c9) (y + 1) _ rfl (HO2.out.alloc _) ⟨w2.heap.size, 0, none⟩ 1 1 [.int .i64 (y1 : Int), .int .i64 ((k : Int) + 1)] rfl rfl (World.news_of_block (cs := #[.int .i64 (y1 : Int), .int .i64 ((k : Int) + 1)]) (t := 40) (fr := (0, 0)) (Blk.at_ (by simp))) (by simp [Value.oneCell']) (by simp only [maxLen]; omega) (by omega) (by simp; omega) ?_; intro v' w6 hown6 hg6 _)
          go_roundg (gk - 1)
          case measure => omega
          case rel =>
            have hlow : ∀ k, (Value.slice (some ⟨g, go, none⟩) (y + 1) c9).ownBlock = some k → w1.heap.size + 1 ≤ k := fun k hk => (HO2.out.lt k hk).1
            refine ⟨k + 1, f, k + 1, acc ++ [(y1, k + 1)], by omega, by omega, by simp; rw [← HZ.out]; omega, by omega, by go_num, hide (lastT_push _ _ _), ?_, ?_, ?_, HR2⟩
            · rw [List.length_append, ← HZ.out, spRow_append, HROW.out]; exact hown6
            · exact (hb12.alloc hb12.size _).grown hg6 (by simp; omega) (fun k hk => by have := hlow k hk; omega)
            · have := hg6.size; simp at this; omega
    · have he := HR.out.trans (senGo_end (f := f) (a := a) (acc := acc) (by rw [HN.out]; exact hkm))
      have bRc := (bR.below hb1 hz1)
      have q0 : wr.cell? ⟨w.heap.size, 0, none⟩ = some (.int .i64 0) := bRc.cell 0
      have q1 : wr.cell? ⟨w.heap.size, 1, none⟩ = some (.int .i64 0) := bRc.cell 1
      have f0 := bRc.frozen 0
      have f1 := bRc.frozen 1
      have hzc := bRc.lt
      have HE := hide he
      have hle : w.heap.size < w1.heap.size + 1 := by omega
      clear he HR bRc hb1
      go_wp2
      rw [HE.out, ← HZ.out]
      exact bodyPost_ret (v := .tuple #[.slice A0 z c9, .agg #[.int .i64 0, .int .i64 0]]) (by simp [results, Tryd.results15, go_sem, q0, q1, f0, f1, hzc]) rfl ⟨_, rfl, own_mono (ownsRow_setCell_below (ownsRow_setCell_below HO.out (a := ⟨w.heap.size, 0, none⟩) hle _) (a := ⟨w.heap.size, 1, none⟩) hle _) (by omega), by go_grown⟩
theorem rspan_any (s : ByteArray) (w : World) (hs : s.size ≤ maxLen) :
    Calls Tryd.prog 15 #[.string s] w fun e w' => ∃ v, e = .returned (.tuple #[v, .agg #[.int .i64 (senR s.data.toList).1.1, .int .i64 (senR s.data.toList).1.2]]) ∧
      SpansAt w' w'.heap.size v (senR s.data.toList).2 ∧ Below w.heap.size w w' := by
  rcases senR_cases s.data.toList with ⟨ps, h1, h2, h3, h4, h5⟩ | ⟨h1, h2⟩
  · rw [h3]
    have hle := sens_le (toks ps)
    exact (rspan_ok s w hs _ h2 h4 h5).mono fun _ _ ⟨v, h1, h2, h3⟩ => ⟨v, h1, SpansAt.of_own h2 rfl (by unfold big; first | omega | (simp only; omega)), h3⟩
  · rw [h2]
    exact (rspan_bad s w hs h1).mono fun _ _ ⟨h1, h3⟩ => ⟨_, h1, SpansAt.of_own (World.ownsRow_nil _ 0 40 2) rfl (by simp [big]), h3⟩
end Go.Proofs.YtcchpijadlgagaaDoor
