/- The closed example decoded, and the law LettersCodeMatchesSpec, walked: it returns true. -/
import Derived.Test.YtcchpijadlgagaaDoorTxN
namespace Go.Proofs.YtcchpijadlgagaaDoor
open Go.RowKit Gm
set_option linter.unusedSimpArgs false
def Tabs (w : World) : Prop := Lib.Utf8Tabs 0 1 w
theorem decR_le (l : List UInt8) (h : l.length ≤ 2000000) : (decR l).2.length ≤ big := by
  rcases decR_cases l with ⟨ps, h1⟩ | ⟨_, h2⟩
  · obtain ⟨_, g2, g3⟩ := decR_ok h1
    have := encL_len_le ps
    rw [h1]; simp only; unfold big; rw [← g2] at this; omega
  · rw [h2]; simp
theorem decR_le' (l : List UInt8) : (decR l).2.length ≤ big := by
  rcases decR_cases l with ⟨ps, h1⟩ | ⟨_, h2⟩
  · obtain ⟨_, g2, g3⟩ := decR_ok h1
    have := encL_len_le ps
    rw [h1]; simp only; unfold big; rw [← g2] at this; omega
  · rw [h2]; simp
/-- letters.Decode, its list as a value. -/
theorem decode_ints (s : ByteArray) (w : World) (hT : Tabs w) (hs : s.size ≤ maxLen) :
    Calls Tryd.prog 25 #[.string s] w fun e w' => ∃ v, e = .returned (.tuple #[v, .agg #[.int .i64 (decR s.data.toList).1.1, .int .i64 (decR s.data.toList).1.2]]) ∧
      Ints w' w'.heap.size v (decR s.data.toList).2 ∧ Below w.heap.size w w' :=
  (decode_any s w hT hs).mono fun _ _ ⟨v, h1, h2, h3⟩ => ⟨v, h1, Ints.of_own h2 rfl (decR_le' _), h3⟩
theorem rpoints_ints (s : ByteArray) (w : World) (hs : s.size ≤ maxLen) :
    Calls Tryd.prog 20 #[.string s] w fun e w' => ∃ v, e = .returned (.tuple #[v, .agg #[.int .i64 (decR s.data.toList).1.1, .int .i64 (decR s.data.toList).1.2]]) ∧
      Ints w' w'.heap.size v (decR s.data.toList).2 ∧ Below w.heap.size w w' :=
  (rpoints_any s w hs).mono fun _ _ ⟨v, h1, h2, h3⟩ => ⟨v, h1, Ints.of_own h2 rfl (decR_le' _), h3⟩
theorem ex_dec : decR [97, 195, 169] = ((0, 0), [97, 233]) := by decide +kernel
theorem ex_enc : encR [97, 233] = ((0, 0), [97, 195, 169]) := by decide +kernel
theorem encode_ex (v : Value) (w : World) (B : Nat) (hB : B ≤ w.heap.size) (h : Ints w B v [97, 233]) :
    Calls Tryd.prog 41 #[v] w fun e w' => e = .returned (.tuple #[.string ⟨#[97, 195, 169]⟩, .agg #[.int .i64 0, .int .i64 0]]) ∧ Below w.heap.size w w' := by
  have := encode_ints v [97, 233] w B hB h
  rw [ex_enc] at this
  exact this
end Go.Proofs.YtcchpijadlgagaaDoor
