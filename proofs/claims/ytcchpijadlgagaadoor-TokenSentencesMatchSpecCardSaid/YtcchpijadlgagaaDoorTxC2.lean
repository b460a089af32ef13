/- Classes and lower case of code points: contracts. -/
import Derived.Test.YtcchpijadlgagaaDoorTxC
import Derived.Deep.Light
namespace Go.Proofs.YtcchpijadlgagaaDoor
open Go.RowKit Gm
def Let (p : Int) : Prop := (65 ≤ p ∧ p ≤ 90) ∨ (97 ≤ p ∧ p ≤ 122) ∨ (192 ≤ p ∧ p ≤ 591 ∧ p ≠ 215 ∧ p ≠ 247) ∨ p = 7688 ∨ p = 7689 ∨ (913 ≤ p ∧ p ≤ 937 ∧ p ≠ 930) ∨ (945 ≤ p ∧ p ≤ 969) ∨ (1040 ≤ p ∧ p ≤ 1103)
def clsP (p : Int) : Int := if p = 9 ∨ p = 10 ∨ p = 13 ∨ p = 32 ∨ p = 160 then 5 else if p = 33 ∨ p = 46 ∨ p = 63 then 6 else if 48 ≤ p ∧ p ≤ 57 then 4 else if 768 ≤ p ∧ p ≤ 879 then 3
  else if (65 ≤ p ∧ p ≤ 90) ∨ (97 ≤ p ∧ p ≤ 122) ∨ (192 ≤ p ∧ p ≤ 591 ∧ p ≠ 215 ∧ p ≠ 247) ∨ p = 7688 ∨ p = 7689 ∨ (913 ≤ p ∧ p ≤ 937 ∧ p ≠ 930) ∨ (945 ≤ p ∧ p ≤ 969) ∨ (1040 ≤ p ∧ p ≤ 1103) then 2 else 1
set_option maxHeartbeats 4000000 in
theorem rclass_any (p : Int) (w : World) :
    Calls Tryd.prog 21 #[.int .i64 p] w fun e w' => e = .returned (.int .i64 (clsP p)) ∧ w = w' := by
  go_enter Tryd.func21, Tryd.ntmps21
  go_wp2
  all_goals go_ret
  all_goals refine ⟨ret_i64 ?_, rfl⟩
  all_goals go_light
  all_goals unfold clsP
  all_goals (repeat' split)
  all_goals first
    | rfl
    | (exfalso; omega)
    | (exfalso; simp only [beq_iff_eq, beq_eq_false_iff_ne] at *; omega)
end Go.Proofs.YtcchpijadlgagaaDoor
