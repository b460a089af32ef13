/- The closed example decoded, and the law LettersCodeMatchesSpec, walked: it returns true. -/
import Derived.Test.YthblidbpicilkaaDoorTxN
namespace Go.Proofs.YthblidbpicilkaaDoor
open Go.RowKit Gm
set_option linter.unusedSimpArgs false
def Tabs (w : World) : Prop := Lib.Utf8Tabs 0 1 w
theorem decR_le (l : List UInt8) (h : l.length ≤ 2000000) : (decR l).2.length ≤ big := by
  rcases decR_cases l with ⟨ps, h1⟩ | ⟨_, h2⟩
  · obtain ⟨_, g2, g3⟩ := decR_ok h1
    have := encL_len_le ps
    rw [h1]; simp only; unfold big; rw [← g2] at this; omega
  · rw [h2]; simp
theorem decR_le' (l : List UInt8) : (decR l).2.length ≤ big := by
  rcases decR_cases l with ⟨ps, h1⟩ | ⟨_, h2⟩
  · obtain ⟨_, g2, g3⟩ := decR_ok h1
    have := encL_len_le ps
    rw [h1]; simp only; unfold big; rw [← g2] at this; omega
  · rw [h2]; simp
/-- letters.Decode, its list as a value. -/
theorem decode_ints (s : ByteArray) (w : World) (hT : Tabs w) (hs : s.size ≤ maxLen) :
    Calls Tryd.prog 10 #[.string s] w fun e w' => ∃ v, e = .returned (.tuple #[v, .agg #[.int .i64 (decR s.data.toList).1.1, .int .i64 (decR s.data.toList).1.2]]) ∧
      Ints w' w'.heap.size v (decR s.data.toList).2 ∧ Below w.heap.size w w' :=
  (decode_any s w hT hs).mono fun _ _ ⟨v, h1, h2, h3⟩ => ⟨v, h1, Ints.of_own h2 rfl (decR_le' _), h3⟩
theorem rpoints_ints (s : ByteArray) (w : World) (hs : s.size ≤ maxLen) :
    Calls Tryd.prog 11 #[.string s] w fun e w' => ∃ v, e = .returned (.tuple #[v, .agg #[.int .i64 (decR s.data.toList).1.1, .int .i64 (decR s.data.toList).1.2]]) ∧
      Ints w' w'.heap.size v (decR s.data.toList).2 ∧ Below w.heap.size w w' :=
  (rpoints_any s w hs).mono fun _ _ ⟨v, h1, h2, h3⟩ => ⟨v, h1, Ints.of_own h2 rfl (decR_le' _), h3⟩
theorem ex_dec : decR [97, 195, 169] = ((0, 0), [97, 233]) := by decide +kernel
theorem ex_enc : encR [97, 233] = ((0, 0), [97, 195, 169]) := by decide +kernel
theorem encode_ex (v : Value) (w : World) (B : Nat) (hB : B ≤ w.heap.size) (h : Ints w B v [97, 233]) :
    Calls Tryd.prog 12 #[v] w fun e w' => e = .returned (.tuple #[.string ⟨#[97, 195, 169]⟩, .agg #[.int .i64 0, .int .i64 0]]) ∧ Below w.heap.size w w' := by
  have := encode_ints v [97, 233] w B hB h
  rw [ex_enc] at this
  exact this
theorem decoded_any (w : World) (hT : Tabs w) :
    Calls Tryd.prog 9 #[] w fun e w' => e = .returned (.bool true) ∧ Below w.heap.size w w' := by
  have he := fun a b c d W => run_eql_fault a b c d W
  have hf : fEq 0 0 0 0 = true := rfl
  have hD := decode_ints ⟨#[97, 195, 169]⟩ w hT (by simp [maxLen]; decide)
  rw [show (⟨#[97, 195, 169]⟩ : ByteArray).data.toList = [97, 195, 169] from rfl, ex_dec] at hD
  have HT := hide hT
  have HD := hide hD
  clear hT hD
  go_enter Tryd.func9, Tryd.ntmps9
  go_wp2_with fail
  refine HD.out.mono ?_
  rintro e w1 ⟨v, rfl, hv, hb1⟩
  have HV := hide hv
  clear hv
  go_wp2_with fail
  refine (encode_ex _ _ (w1.heap.size + 1 + 1) (by simp) (Ints.of_blk (t := 3) (Blk.at_ (by simp)) rfl rfl (by simp [big]))).mono ?_
  rintro e w3 ⟨rfl, hb3⟩
  have hs3 := hb3.size
  simp at hs3
  have bF := ((Blk.new w1 25 #[.int .i64 0, .int .i64 0]).alloc (Obj.cells #[.int .i64 97, .int .i64 233] 3)).below hb3 (by simp; omega)
  have hv := HV.out.below (show Below w1.heap.size w1 w3 from Below.trans (by go_grown) (hb3.mono (by simp; omega))) (Nat.le_refl _)
  have hbw : Below w.heap.size w w3 := hb1.trans (Below.trans (by have := hb1.size; go_grown) (hb3.mono (by have := hb1.size; simp; omega)))
  clear hb3 HV
  have HV := hide hv
  have HF := hide bF
  have hz := hb1.size
  have q0 : w3.cell? ⟨w1.heap.size, 0, none⟩ = some (.int .i64 0) := bF.cell 0
  have q1 : w3.cell? ⟨w1.heap.size, 1, none⟩ = some (.int .i64 0) := bF.cell 1
  have hlt : w1.heap.size < w3.heap.size := by omega
  clear hv bF
  go_wp2_with fail
  refine (numbers_any _ _ [97, 233] [97, 233] _ (w3.heap.size + 1 + 1) ((HV.out.below (B' := w3.heap.size) (by go_grown) (by omega)).mono (by omega)) (Ints.of_blk (t := 3) (Blk.at_ (by simp)) rfl rfl (by simp [big])) (by simp)).mono ?_
  rintro e w4 ⟨rfl, hb4⟩
  have hbw4 : Below w.heap.size w w4 := hbw.trans (Below.trans (by have := hbw.size; go_grown) (hb4.mono (by have := hbw.size; simp; omega)))
  clear hb4
  have hd : decide ([97, 233] = ([97, 233] : List Int)) = true := rfl
  rw [hd]
  go_wp2
  go_ret
  exact ⟨rfl, hbw4⟩
set_option maxHeartbeats 1000000 in
theorem code_any (s : ByteArray) (v : Value) (ps : List Int) (w : World) (hT : Tabs w) (hs : s.size ≤ maxLen) (hv : Ints w w.heap.size v ps) :
    Calls Tryd.prog 3 #[.string s, v] w fun e w' => e = .returned (.bool true) ∧ Below w.heap.size w w' := by
  have he := fun a b c d W => run_eql_fault a b c d W
  obtain ⟨a1, h1⟩ : ∃ x, x = (decR s.data.toList).1.1 := ⟨_, rfl⟩
  obtain ⟨a2, h2⟩ : ∃ x, x = (decR s.data.toList).1.2 := ⟨_, rfl⟩
  obtain ⟨L, hL⟩ : ∃ x, x = (decR s.data.toList).2 := ⟨_, rfl⟩
  obtain ⟨c1, h3⟩ : ∃ x, x = (encR ps).1.1 := ⟨_, rfl⟩
  obtain ⟨c2, h4⟩ : ∃ x, x = (encR ps).1.2 := ⟨_, rfl⟩
  obtain ⟨t, ht⟩ : ∃ x, x = (⟨(encR ps).2.toArray⟩ : ByteArray) := ⟨_, rfl⟩
  have hD := fun W (h : Tabs W) => decode_ints s W h hs
  have hP := fun W => rpoints_ints s W hs
  have hE := fun W B hB h => encode_ints v ps W B hB h
  have hX := fun W B hB h => text_ints v ps W B hB h
  simp only [← h1, ← h2, ← hL] at hD hP
  simp only [← h3, ← h4, ← ht] at hE hX
  have HD := hide hD
  have HP := hide hP
  have HE := hide hE
  have HX := hide hX
  have HT := hide hT
  have HV := hide hv
  clear hT hD hP hE hX h1 h2 hL h3 h4 ht hv
  have f1 : fEq a1 a2 a1 a2 = true := by simp [fEq]
  have f2 : fEq c1 c2 c1 c2 = true := by simp [fEq]
  go_enter Tryd.func3, Tryd.ntmps3
  go_wp2_with fail
  refine (decoded_any _ HT.out).mono ?_
  rintro e w1 ⟨rfl, hb1⟩
  go_wp2_with fail
  refine (HD.out _ (tabs_keep HT.out hb1 (Nat.le_refl _))).mono ?_
  rintro e w2 ⟨v2, rfl, hv2, hb2⟩
  have hbw : Below w.heap.size w w2 := hb1.trans (hb2.mono hb1.size)
  clear hb1 hb2
  have HV2 := hide hv2
  clear hv2
  go_wp2_with fail
  refine (HP.out _).mono ?_
  rintro e w3 ⟨v3, rfl, hv3, hb3⟩
  have bF := (Blk.new w2 25 #[.int .i64 a1, .int .i64 a2]).below hb3 (by simp)
  have hbb : Below w2.heap.size w2 w3 := Below.trans (by go_grown) (hb3.mono (by simp))
  have hs3 := hb3.size
  simp at hs3
  have HV2 := hide (HV2.out.below hbb (Nat.le_refl _))
  have hbw : Below w.heap.size w w3 := hbw.trans (hbb.mono hbw.size)
  clear hb3 hbb
  have HV3 := hide hv3
  clear hv3
  go_wp2_with fail
  refine (HE.out _ w.heap.size (by have := hbw.size; simp; omega) (HV.out.below (hbw.trans (by have := hbw.size; go_grown)) (Nat.le_refl _))).mono ?_
  rintro e w4 ⟨rfl, hb4⟩
  have hbb : Below w3.heap.size w3 w4 := Below.trans (by go_grown) (hb4.mono (by simp))
  have bF := bF.below hbb (by omega)
  have bG := (Blk.new w3 25 #[.int .i64 a1, .int .i64 a2]).below hb4 (by simp)
  have hs4 := hb4.size
  simp at hs4
  have HV2 := hide (HV2.out.below hbb (by omega))
  have HV3 := hide (HV3.out.below hbb (Nat.le_refl _))
  have hbw : Below w.heap.size w w4 := hbw.trans (hbb.mono hbw.size)
  clear hb4 hbb
  go_wp2_with fail
  refine (HX.out _ w.heap.size (by have := hbw.size; simp; omega) (HV.out.below (hbw.trans (by have := hbw.size; go_grown)) (Nat.le_refl _))).mono ?_
  rintro e w5 ⟨rfl, hb5⟩
  have hbb : Below w4.heap.size w4 w5 := Below.trans (by go_grown) (hb5.mono (by simp))
  have bF := bF.below hbb (by omega)
  have bG := bG.below hbb (by omega)
  have bH := (Blk.new w4 25 #[.int .i64 c1, .int .i64 c2]).below hb5 (by simp)
  have hs5 := hb5.size
  simp at hs5
  have HV2 := hide (HV2.out.below hbb (by omega))
  have HV3 := hide (HV3.out.below hbb (by omega))
  have hbw : Below w.heap.size w w5 := hbw.trans (hbb.mono hbw.size)
  clear hb5 hbb
  have q0 : w5.cell? ⟨w2.heap.size, 0, none⟩ = some (.int .i64 a1) := bF.cell 0
  have q1 : w5.cell? ⟨w2.heap.size, 1, none⟩ = some (.int .i64 a2) := bF.cell 1
  have q2 : w5.cell? ⟨w3.heap.size, 0, none⟩ = some (.int .i64 a1) := bG.cell 0
  have q3 : w5.cell? ⟨w3.heap.size, 1, none⟩ = some (.int .i64 a2) := bG.cell 1
  have q4 : w5.cell? ⟨w4.heap.size, 0, none⟩ = some (.int .i64 c1) := bH.cell 0
  have q5 : w5.cell? ⟨w4.heap.size, 1, none⟩ = some (.int .i64 c2) := bH.cell 1
  have l2 : w2.heap.size < w5.heap.size := by omega
  have l3 : w3.heap.size < w5.heap.size := by omega
  have l4 : w4.heap.size < w5.heap.size := by omega
  go_wp2_with fail
  refine (numbers_any _ _ L L _ w5.heap.size ((HV2.out.below (B' := w5.heap.size) (by go_grown) (by omega)).mono (by omega)) ((HV3.out.below (B' := w5.heap.size) (by go_grown) (by omega)).mono (by omega)) (by simp)).mono ?_
  rintro e w6 ⟨rfl, hb6⟩
  have hbb : Below w5.heap.size w5 w6 := Below.trans (by go_grown) (hb6.mono (by simp))
  have q4 := keep_cell hbb q4 l4
  have q5 := keep_cell hbb q5 l4
  have q6 : w6.cell? ⟨w5.heap.size, 0, none⟩ = some (.int .i64 c1) := keep_cell hb6 (by go_simp) (by simp)
  have q7 : w6.cell? ⟨w5.heap.size, 1, none⟩ = some (.int .i64 c2) := keep_cell hb6 (by go_simp) (by simp)
  have hs6 := hb6.size
  simp at hs6
  have l4 : w4.heap.size < w6.heap.size := by omega
  have l5 : w5.heap.size < w6.heap.size := by omega
  have hbw : Below w.heap.size w w6 := hbw.trans (hbb.mono hbw.size)
  have hd : decide (L = L) = true := by simp
  rw [hd]
  clear hb6 hbb hd
  go_wp2
  go_ret
  exact ⟨rfl, hbw⟩
end Go.Proofs.YthblidbpicilkaaDoor
