/- The small functions of packages letters, token and of the reference's file text.go: contracts. -/
import Derived.Test.YtcchpijadlgagaaDoorProg
import Derived.Test.YtcchpijadlgagaaDoorTxP
import Derived.Test.YtcchpijadlgagaaDoorLib
import Derived.Test.YtcchpijadlgagaaDoorReg
import Derived.Outline
import Derived.Handy
import Derived.Deep.QuietTactic
import Derived.BigQuiet
import Derived.Laws.StructEq
namespace Go.Proofs.YtcchpijadlgagaaDoor
open Go.RowKit Gm
theorem lfault_any (a b : Int) (w : World) :
    Calls Tryd.prog 38 #[.int .i64 a, .int .i64 b] w fun e w' => e = .returned (.agg #[.int .i64 a, .int .i64 b]) ∧ Below w.heap.size w w' := by
  go_enter Tryd.func38, Tryd.ntmps38
  go_wp2
  exact bodyPost_ret (v := .agg #[.int .i64 a, .int .i64 b]) (by simp [results, Tryd.results38, go_sem]) rfl ⟨rfl, (Below.refl _ _).alloc (Nat.le_refl _) _⟩
theorem tfault_any (a b : Int) (w : World) :
    Calls Tryd.prog 17 #[.int .i64 a, .int .i64 b] w fun e w' => e = .returned (.agg #[.int .i64 a, .int .i64 b]) ∧ Below w.heap.size w w' := by
  go_enter Tryd.func17, Tryd.ntmps17
  go_wp2
  exact bodyPost_ret (v := .agg #[.int .i64 a, .int .i64 b]) (by simp [results, Tryd.results17, go_sem]) rfl ⟨rfl, (Below.refl _ _).alloc (Nat.le_refl _) _⟩
theorem rfault_any (a b : Int) (w : World) :
    Calls Tryd.prog 19 #[.int .i64 a, .int .i64 b] w fun e w' => e = .returned (.agg #[.int .i64 a, .int .i64 b]) ∧ Below w.heap.size w w' := by
  go_enter Tryd.func19, Tryd.ntmps19
  go_wp2
  exact bodyPost_ret (v := .agg #[.int .i64 a, .int .i64 b]) (by simp [results, Tryd.results19, go_sem]) rfl ⟨rfl, (Below.refl _ _).alloc (Nat.le_refl _) _⟩
def fEq (a b c d : Int) : Bool := decide (a = c) && decide (b = d)
theorem run_neq_fault (a b c d : Int) (w : World) : (binOp .neq 25 (.agg #[.int .i64 a, .int .i64 b]) (.agg #[.int .i64 c, .int .i64 d])).run Tryd.prog w = .ok (.bool (!fEq a b c d)) w := by
  simp [go_sem, fEq]
  by_cases e1 : a = c <;> by_cases e2 : b = d <;> simp_all
theorem run_eql_fault (a b c d : Int) (w : World) : (binOp .eql 25 (.agg #[.int .i64 a, .int .i64 b]) (.agg #[.int .i64 c, .int .i64 d])).run Tryd.prog w = .ok (.bool (fEq a b c d)) w := by
  simp [go_sem, fEq]
  by_cases e1 : a = c <;> by_cases e2 : b = d <;> simp_all
theorem fEq_true {a b c d : Int} (h : a = c ∧ b = d) : fEq a b c d = true := by simp [fEq, h]
theorem fEq_false {a b c d : Int} (h : ¬ (a = c ∧ b = d)) : fEq a b c d = false := by
  unfold fEq; by_cases e1 : a = c <;> by_cases e2 : b = d <;> simp_all
theorem ret_bool {a b : Bool} (h : a = b) : Ending.returned (.bool a) = .returned (.bool b) := by rw [h]
theorem ret_i64 {a b : Int} (h : a = b) : Ending.returned (.int .i64 a) = .returned (.int .i64 b) := by rw [h]
theorem rscalar_any (p : Int) (w : World) :
    Calls Tryd.prog 47 #[.int .i64 p] w fun e w' => e = .returned (.bool (scal p)) ∧ w = w' := by
  go_enter Tryd.func47, Tryd.ntmps47
  go_wp2
  all_goals go_ret
  all_goals refine ⟨ret_bool ?_, rfl⟩
  all_goals (try simp only [scal])
  all_goals (rw [Bool.eq_iff_iff]; simp; try omega)
theorem scalar_any (p : Int) (w : World) :
    Calls Tryd.prog 49 #[.int .i64 p] w fun e w' => e = .returned (.bool (scal p)) ∧ w = w' := by
  go_enter Tryd.func49, Tryd.ntmps49
  go_wp2
  all_goals go_ret
  all_goals refine ⟨ret_bool ?_, rfl⟩
  all_goals (try simp only [scal])
  all_goals (rw [Bool.eq_iff_iff]; simp; try omega)
theorem rwidth_any (p : Int) (w : World) :
    Calls Tryd.prog 37 #[.int .i64 p] w fun e w' => e = .returned (.int .i64 (wid p)) ∧ w = w' := by
  go_enter Tryd.func37, Tryd.ntmps37
  go_wp2
  all_goals go_ret
  all_goals refine ⟨ret_i64 ?_, rfl⟩
  all_goals unfold wid
  all_goals (repeat' split)
  all_goals first | rfl | omega
theorem twidth_any (p : Int) (w : World) :
    Calls Tryd.prog 26 #[.int .i64 p] w fun e w' => e = .returned (.int .i64 (wid p)) ∧ w = w' := by
  go_enter Tryd.func26, Tryd.ntmps26
  go_wp2
  all_goals go_ret
  all_goals refine ⟨ret_i64 ?_, rfl⟩
  all_goals unfold wid
  all_goals (repeat' split)
  all_goals first | rfl | omega
end Go.Proofs.YtcchpijadlgagaaDoor
