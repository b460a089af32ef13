/- The reference's Weigh, walked. -/
import Derived.Test.YtmgpcnkmmgkjgaaWdW
import Derived.Test.YtmgpcnkmmgkjgaaWeP
import Derived.Test.YtmgpcnkmmgkjgaaNew
import Derived.Test.YtmgpcnkmmgkjgaaReach
import Derived.Deep.CutRange
namespace Gm
theorem stp_val {u v : List Int} {a : Arc} {i j : Nat} (h : (stp u v a i j).isNone = false) : stp u v a i j = some (if a.i = 0 then i else i + 1, if a.o = 0 then j else j + 1) := by
  unfold stp at h ⊢
  by_cases h1 : a.i ≠ 0 ∧ (i = u.length ∨ u.getD i 0 ≠ a.i)
  · rw [if_pos h1] at h; simp at h
  · rw [if_neg h1] at h ⊢
    by_cases h2 : a.o ≠ 0 ∧ (j = v.length ∨ v.getD j 0 ≠ a.o)
    · rw [if_pos h2] at h; simp at h
    · rw [if_neg h2]
theorem stp_noI {u v : List Int} {a : Arc} {i j : Nat} (h1 : a.i ≠ 0) (h2 : i = u.length ∨ u.getD i 0 ≠ a.i) : (stp u v a i j).isNone = true := by
  unfold stp; rw [if_pos ⟨h1, h2⟩]; rfl
theorem stp_noO {u v : List Int} {a : Arc} {i j : Nat} (h1 : a.o ≠ 0) (h2 : j = v.length ∨ v.getD j 0 ≠ a.o) : (stp u v a i j).isNone = true := by
  unfold stp
  by_cases h : a.i ≠ 0 ∧ (i = u.length ∨ u.getD i 0 ≠ a.i)
  · rw [if_pos h]; rfl
  · rw [if_neg h, if_pos ⟨h1, h2⟩]; rfl
theorem stp_yesB {u v : List Int} {a : Arc} {i j : Nat} (h1 : a.i = 0 ∨ (i ≠ u.length ∧ u.getD i 0 = a.i)) (h2 : a.o = 0 ∨ (j ≠ v.length ∧ v.getD j 0 = a.o)) : (stp u v a i j).isNone = false := by
  unfold stp
  rw [if_neg, if_neg]
  · rfl
  · rintro ⟨g, h⟩
    rcases h2 with h2 | ⟨h2, h3⟩
    · exact g h2
    · rcases h with h | h
      · exact h2 h
      · exact h h3
  · rintro ⟨g, h⟩
    rcases h1 with h2 | ⟨h2, h3⟩
    · exact g h2
    · rcases h with h | h
      · exact h2 h
      · exact h h3
end Gm
namespace Go.Proofs.Ytmgpcnkmmgkjgaa
open Go.RowKit Gm
set_option linter.unusedSimpArgs false
set_option linter.unusedVariables false
end Go.Proofs.Ytmgpcnkmmgkjgaa
