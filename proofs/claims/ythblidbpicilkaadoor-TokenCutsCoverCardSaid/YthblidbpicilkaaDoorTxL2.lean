/- The law LettersComeBack, walked: it returns true. -/
import Derived.Test.YthblidbpicilkaaDoorTxL1
namespace Go.Proofs.YthblidbpicilkaaDoor
open Go.RowKit Gm
set_option linter.unusedSimpArgs false
theorem bytes_eta (s : ByteArray) : (⟨s.data.toList.toArray⟩ : ByteArray) = s := by cases s; simp
theorem fEq_ne {a b : Int} (h : a ≠ 0) : fEq a b 0 0 = false := fEq_false (fun h1 => h h1.1)
set_option maxHeartbeats 1000000 in
theorem back_any (s : ByteArray) (v : Value) (ps : List Int) (w : World) (hT : Tabs w) (hs : s.size ≤ maxLen) (hv : Ints w w.heap.size v ps) :
    Calls Tryd.prog 4 #[.string s, v] w fun e w' => e = .returned (.bool true) ∧ Below w.heap.size w w' := by
  have he := fun a b c d W => run_eql_fault a b c d W
  have hne := fun a b c d W => run_neq_fault a b c d W
  have hf0 : fEq 0 0 0 0 = true := rfl
  have HT := hide hT
  have HV := hide hv
  have HS := hide hs
  clear hT hv hs
  obtain ⟨c1, h3⟩ : ∃ x, x = (encR ps).1.1 := ⟨_, rfl⟩
  obtain ⟨c2, h4⟩ : ∃ x, x = (encR ps).1.2 := ⟨_, rfl⟩
  obtain ⟨t, ht⟩ : ∃ x, x = (⟨(encR ps).2.toArray⟩ : ByteArray) := ⟨_, rfl⟩
  have hE := fun W B hB h => encode_ints v ps W B hB h
  simp only [← h3, ← h4, ← ht] at hE
  have HE := hide hE
  have HC : Hid ((c1 = 0 ∧ c2 = 0 ∧ t.size ≤ maxLen ∧ decR t.data.toList = ((0, 0), ps)) ∨ c1 ≠ 0) := by
    rcases encR_cases ps with ⟨l, hl⟩ | ⟨h5, _⟩
    · obtain ⟨g1, g2, g3⟩ := encR_ok hl
      refine hide (.inl ⟨by rw [h3, hl], by rw [h4, hl], ?_, ?_⟩)
      · rw [ht, hl]; simp only; subst g2
        have : (⟨(encL ps).toArray⟩ : ByteArray).size = (encL ps).length := by simp [ByteArray.size]
        rw [this]; unfold maxLen; omega
      · rw [ht, hl, g2]; simp only; exact decR_enc g1 g3
    · exact hide (.inr (by rw [h3]; exact h5))
  clear hE h3 h4 ht
  go_enter Tryd.func4, Tryd.ntmps4
  go_wp2_with fail
  refine (decoded_any _ HT.out).mono ?_
  rintro e w1 ⟨rfl, hb1⟩
  have hD := decode_ints s w1 (tabs_keep HT.out hb1 (Nat.le_refl _)) HS.out
  rcases decR_cases s.data.toList with ⟨qs, hq⟩ | ⟨hq, _⟩
  · rw [hq] at hD
    obtain ⟨g1, g2, g3⟩ := decR_ok hq
    have hen := encR_enc g1 (by rw [← g2]; exact g3)
    rw [← g2] at hen
    have HD := hide hD
    have HN := hide hen
    clear hD hq g1 g2 g3 hen
    go_wp2_with fail
    refine HD.out.mono ?_
    rintro e w2 ⟨v2, rfl, hv2, hb2⟩
    clear HD
    have hbw : Below w.heap.size w w2 := hb1.trans (hb2.mono hb1.size)
    clear hb1 hb2
    have hE2 := encode_ints v2 qs (w2.alloc (Obj.cells #[.int .i64 0, .int .i64 0] 25)) w2.heap.size (by simp) (hv2.below (B' := w2.heap.size) (by go_grown) (Nat.le_refl _))
    rw [HN.out] at hE2
    simp only [bytes_eta] at hE2
    have HE2 := hide hE2
    clear hE2 hv2 HN
    go_wp2_with fail
    refine HE2.out.mono ?_
    rintro e w3 ⟨rfl, hb3⟩
    have hbq : Below w.heap.size w (w3.alloc (Obj.cells #[.int .i64 0, .int .i64 0] 25)) := by
      have h3 : Below w.heap.size w w3 := hbw.trans (Below.trans (by have := hbw.size; go_grown) (hb3.mono (by have := hbw.size; simp; omega)))
      exact h3.alloc h3.size _
    clear hb3 HE2 hbw
    go_wp2_with fail
    refine (HE.out _ w.heap.size hbq.size (HV.out.below hbq (Nat.le_refl _))).mono ?_
    rintro e w5 ⟨rfl, hb5⟩
    have hbw : Below w.heap.size w w5 := hbq.trans (hb5.mono hbq.size)
    clear hbq hb5
    rcases HC.out with ⟨hc1, hc2, hts, htd⟩ | hc
    · subst hc1; subst hc2
      have hbq : Below w.heap.size w (w5.alloc (Obj.cells #[.int .i64 0, .int .i64 0] 25)) := hbw.alloc hbw.size _
      have hD2 := decode_ints t (w5.alloc (Obj.cells #[.int .i64 0, .int .i64 0] 25)) (tabs_keep HT.out hbq (Nat.le_refl _)) hts
      rw [htd] at hD2
      have HD2 := hide hD2
      clear hD2 hts htd HC
      go_wp2_with fail
      refine HD2.out.mono ?_
      rintro e w6 ⟨v6, rfl, hv6, hb6⟩
      have hbw6 : Below w.heap.size w w6 := hbq.trans (hb6.mono hbq.size)
      have HV6 := hide hv6
      clear hb6 hbq hv6 HD2
      go_wp2_with fail
      refine (numbers_any _ _ ps ps _ w6.heap.size (HV6.out.below (B' := w6.heap.size) (by go_grown) (Nat.le_refl _)) ((HV.out.below (B' := w.heap.size) (hbw6.trans (by have := hbw6.size; go_grown)) (Nat.le_refl _)).mono hbw6.size) (by simp)).mono ?_
      rintro e w7 ⟨rfl, hb7⟩
      have hbw7 : Below w.heap.size w w7 := hbw6.trans (Below.trans (by have := hbw6.size; go_grown) (hb7.mono (by have := hbw6.size; simp; omega)))
      have hd : decide (ps = ps) = true := by simp
      rw [hd]
      clear hb7 hd
      go_wp2
      go_ret
      exact ⟨rfl, hbw7⟩
    · have hfz := fEq_ne (b := c2) hc
      clear hc HC
      go_wp2
      go_ret
      exact ⟨rfl, by have := hbw.size; go_grown⟩
  · obtain ⟨a1, h1⟩ : ∃ x, x = (decR s.data.toList).1.1 := ⟨_, rfl⟩
    obtain ⟨a2, h2⟩ : ∃ x, x = (decR s.data.toList).1.2 := ⟨_, rfl⟩
    rw [← h1] at hq
    simp only [← h1, ← h2] at hD
    have hfa := fEq_ne (b := a2) hq
    have HD := hide hD
    clear hD hq h1 h2
    go_wp2_with fail
    refine HD.out.mono ?_
    rintro e w2 ⟨v2, rfl, hv2, hb2⟩
    clear HD hv2
    have hbw : Below w.heap.size w w2 := hb1.trans (hb2.mono hb1.size)
    clear hb1 hb2
    have hbq : Below w.heap.size w (w2.alloc (Obj.cells #[.int .i64 a1, .int .i64 a2] 25)) := hbw.alloc hbw.size _
    go_wp2_with fail
    refine (HE.out _ w.heap.size hbq.size (HV.out.below hbq (Nat.le_refl _))).mono ?_
    rintro e w5 ⟨rfl, hb5⟩
    have hbw : Below w.heap.size w w5 := hbq.trans (hb5.mono hbq.size)
    clear hbq hb5 hfa
    rcases HC.out with ⟨hc1, hc2, hts, htd⟩ | hc
    · subst hc1; subst hc2
      have hbq : Below w.heap.size w (w5.alloc (Obj.cells #[.int .i64 0, .int .i64 0] 25)) := hbw.alloc hbw.size _
      have hD2 := decode_ints t (w5.alloc (Obj.cells #[.int .i64 0, .int .i64 0] 25)) (tabs_keep HT.out hbq (Nat.le_refl _)) hts
      rw [htd] at hD2
      have HD2 := hide hD2
      clear hD2 hts htd HC
      go_wp2_with fail
      refine HD2.out.mono ?_
      rintro e w6 ⟨v6, rfl, hv6, hb6⟩
      have hbw6 : Below w.heap.size w w6 := hbq.trans (hb6.mono hbq.size)
      have HV6 := hide hv6
      clear hb6 hbq hv6 HD2
      go_wp2_with fail
      refine (numbers_any _ _ ps ps _ w6.heap.size (HV6.out.below (B' := w6.heap.size) (by go_grown) (Nat.le_refl _)) ((HV.out.below (B' := w.heap.size) (hbw6.trans (by have := hbw6.size; go_grown)) (Nat.le_refl _)).mono hbw6.size) (by simp)).mono ?_
      rintro e w7 ⟨rfl, hb7⟩
      have hbw7 : Below w.heap.size w w7 := hbw6.trans (Below.trans (by have := hbw6.size; go_grown) (hb7.mono (by have := hbw6.size; simp; omega)))
      have hd : decide (ps = ps) = true := by simp
      rw [hd]
      clear hb7 hd
      go_wp2
      go_ret
      exact ⟨rfl, hbw7⟩
    · have hfz := fEq_ne (b := c2) hc
      clear hc HC
      go_wp2
      go_ret
      exact ⟨rfl, by have := hbw.size; go_grown⟩
end Go.Proofs.YthblidbpicilkaaDoor
