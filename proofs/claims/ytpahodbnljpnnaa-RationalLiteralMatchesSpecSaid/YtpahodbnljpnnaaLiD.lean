/- The machine of one pair: its plain form. -/
import Derived.Test.YtpahodbnljpnnaaWdW
import Derived.Test.YtpahodbnljpnnaaPlT
namespace Gm
set_option linter.unusedSimpArgs false
set_option linter.unusedVariables false
def litArc (lu lo : List Int) (k : Nat) : Arc := ⟨(k : Int), (k : Int) + 1, lu.getD k 0, lo.getD k 0, 0⟩
def litN (lu lo : List Int) : Nat := if lu.length < lo.length then lo.length else lu.length
def litArcs (lu lo : List Int) (n : Nat) : List Arc := (List.range n).map (litArc lu lo)
theorem litArcs_succ (lu lo : List Int) (n : Nat) : litArcs lu lo (n + 1) = litArcs lu lo n ++ [litArc lu lo n] := by
  unfold litArcs; rw [List.range_succ, List.map_append]; rfl
theorem litArcs_len (lu lo : List Int) (n : Nat) : (litArcs lu lo n).length = n := by simp [litArcs]
def litM (lu lo : List Int) (wt : Int) : Mach := ⟨(litN lu lo : Int) + 1, litArcs lu lo (litN lu lo), [⟨(litN lu lo : Int), wt⟩]⟩
def litF (lu lo : List Int) (wt : Int) : Int × Int := if wordF lu (-1) = (0, 0) then (if wordF lo (-2) = (0, 0) then (if 0 ≤ wt ∧ wt ≤ 1000000 then (0, 0) else (3, -3)) else wordF lo (-2)) else wordF lu (-1)
def litR (lu lo : List Int) (wt : Int) : Mach := if litF lu lo wt = (0, 0) then litM lu lo wt else emptyM
end Gm
