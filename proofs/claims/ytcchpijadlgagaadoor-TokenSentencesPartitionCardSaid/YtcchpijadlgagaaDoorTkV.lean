/- The law TokenCutsCover, walked: it returns true. -/
import Derived.Test.YtcchpijadlgagaaDoorTkK
namespace Go.Proofs.YtcchpijadlgagaaDoor
open Go.RowKit Gm
set_option linter.unusedSimpArgs false
set_option linter.unusedVariables false
theorem cutR_cases (l : List UInt8) : (∃ ps, decR l = ((0, 0), ps) ∧ cutR l = ((0, 0), toks ps) ∧ (toks ps).length ≤ 300) ∨ ((cutR l).1.1 ≠ 0 ∧ (cutR l).2 = []) := by
  rcases decR_cases l with ⟨ps, h⟩ | ⟨h1, h2⟩
  · have e : cutR l = cutB (toks ps) := by unfold cutR; rw [h]; exact if_pos rfl
    by_cases h3 : 300 < (toks ps).length
    · right; rw [e]; unfold cutB; rw [if_pos h3]; exact ⟨by simp, rfl⟩
    · left; refine ⟨ps, h, ?_, by omega⟩; rw [e]; unfold cutB; rw [if_neg h3]
  · right
    have e : cutR l = ((decR l).1, []) := by unfold cutR; rw [if_neg (by intro h; rw [h] at h1; exact h1 rfl)]
    rw [e]; exact ⟨h1, rfl⟩
theorem ext_le (s : ByteArray) (a b : Nat) (h : s.size ≤ maxLen) : (s.extract a b).size ≤ maxLen := by
  rw [ByteArray.size_extract]; omega
/-- A piece of a text, read: the points between. -/
theorem rpoints_piece (s : ByteArray) (ps : List Int) (hs : s.size ≤ maxLen) (HG : Hid (s.data.toList = encL ps)) (HA : Hid (allS ps)) (h4 : s.size ≤ 4000) (i j : Nat) (hij : i ≤ j) (w : World) :
    Calls Tryd.prog 20 #[.string (s.extract (ofs ps i) (ofs ps j))] w fun e w' => ∃ v, e = .returned (.tuple #[v, .agg #[.int .i64 0, .int .i64 0]]) ∧ Ints w' w'.heap.size v (sl ps i j) ∧ Below w.heap.size w w' := by
  have h := rpoints_ints (s.extract (ofs ps i) (ofs ps j)) w (ext_le s _ _ hs)
  have hsub := sub_take ps hij
  have hT : s.extract (ofs ps i) (ofs ps j) = ⟨(sub ps i j).toArray⟩ := by rw [Lib.extract_eq, HG.out, hsub]
  have hlen : (encL ps).length ≤ 4000 := by rw [← HG.out]; simp; exact h4
  have e : (s.extract (ofs ps i) (ofs ps j)).data.toList = sub ps i j := by rw [hT]
  rw [e, decR_sl HA.out hlen] at h
  exact h
end Go.Proofs.YtcchpijadlgagaaDoor
