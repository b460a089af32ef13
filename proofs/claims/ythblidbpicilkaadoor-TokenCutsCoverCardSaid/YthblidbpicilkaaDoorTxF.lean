/- The small functions of packages letters, token and of the reference's file text.go: contracts. -/
import Derived.Test.YthblidbpicilkaaDoorProg
import Derived.Test.YthblidbpicilkaaDoorTxP
import Derived.Test.YthblidbpicilkaaDoorLib
import Derived.Test.YthblidbpicilkaaDoorReg
import Derived.Outline
import Derived.Handy
import Derived.Deep.QuietTactic
import Derived.BigQuiet
import Derived.Laws.StructEq
namespace Go.Proofs.YthblidbpicilkaaDoor
open Go.RowKit Gm
theorem lfault_any (a b : Int) (w : World) :
    Calls Tryd.prog 27 #[.int .i64 a, .int .i64 b] w fun e w' => e = .returned (.agg #[.int .i64 a, .int .i64 b]) ∧ Below w.heap.size w w' := by
  go_enter Tryd.func27, Tryd.ntmps27
  go_wp2
  exact bodyPost_ret (v := .agg #[.int .i64 a, .int .i64 b]) (by simp [results, Tryd.results27, go_sem]) rfl ⟨rfl, (Below.refl _ _).alloc (Nat.le_refl _) _⟩
theorem tfault_any (a b : Int) (w : World) :
    Calls Tryd.prog 43 #[.int .i64 a, .int .i64 b] w fun e w' => e = .returned (.agg #[.int .i64 a, .int .i64 b]) ∧ Below w.heap.size w w' := by
  go_enter Tryd.func43, Tryd.ntmps43
  go_wp2
  exact bodyPost_ret (v := .agg #[.int .i64 a, .int .i64 b]) (by simp [results, Tryd.results43, go_sem]) rfl ⟨rfl, (Below.refl _ _).alloc (Nat.le_refl _) _⟩
theorem rfault_any (a b : Int) (w : World) :
    Calls Tryd.prog 29 #[.int .i64 a, .int .i64 b] w fun e w' => e = .returned (.agg #[.int .i64 a, .int .i64 b]) ∧ Below w.heap.size w w' := by
  go_enter Tryd.func29, Tryd.ntmps29
  go_wp2
  exact bodyPost_ret (v := .agg #[.int .i64 a, .int .i64 b]) (by simp [results, Tryd.results29, go_sem]) rfl ⟨rfl, (Below.refl _ _).alloc (Nat.le_refl _) _⟩
def fEq (a b c d : Int) : Bool := decide (a = c) && decide (b = d)
theorem run_neq_fault (a b c d : Int) (w : World) : (binOp .neq 25 (.agg #[.int .i64 a, .int .i64 b]) (.agg #[.int .i64 c, .int .i64 d])).run Tryd.prog w = .ok (.bool (!fEq a b c d)) w := by
  simp [go_sem, fEq]
  by_cases e1 : a = c <;> by_cases e2 : b = d <;> simp_all
theorem run_eql_fault (a b c d : Int) (w : World) : (binOp .eql 25 (.agg #[.int .i64 a, .int .i64 b]) (.agg #[.int .i64 c, .int .i64 d])).run Tryd.prog w = .ok (.bool (fEq a b c d)) w := by
  simp [go_sem, fEq]
  by_cases e1 : a = c <;> by_cases e2 : b = d <;> simp_all
theorem fEq_true {a b c d : Int} (h : a = c ∧ b = d) : fEq a b c d = true := by simp [fEq, h]
theorem fEq_false {a b c d : Int} (h : ¬ (a = c ∧ b = d)) : fEq a b c d = false := by
  unfold fEq; by_cases e1 : a = c <;> by_cases e2 : b = d <;> simp_all
theorem ret_bool {a b : Bool} (h : a = b) : Ending.returned (.bool a) = .returned (.bool b) := by rw [h]
theorem ret_i64 {a b : Int} (h : a = b) : Ending.returned (.int .i64 a) = .returned (.int .i64 b) := by rw [h]
theorem rscalar_any (p : Int) (w : World) :
    Calls Tryd.prog 16 #[.int .i64 p] w fun e w' => e = .returned (.bool (scal p)) ∧ w = w' := by
  go_enter Tryd.func16, Tryd.ntmps16
  go_wp2
  all_goals go_ret
  all_goals refine ⟨ret_bool ?_, rfl⟩
  all_goals (try simp only [scal])
  all_goals (rw [Bool.eq_iff_iff]; simp; try omega)
theorem scalar_any (p : Int) (w : World) :
    Calls Tryd.prog 32 #[.int .i64 p] w fun e w' => e = .returned (.bool (scal p)) ∧ w = w' := by
  go_enter Tryd.func32, Tryd.ntmps32
  go_wp2
  all_goals go_ret
  all_goals refine ⟨ret_bool ?_, rfl⟩
  all_goals (try simp only [scal])
  all_goals (rw [Bool.eq_iff_iff]; simp; try omega)
theorem rwidth_any (p : Int) (w : World) :
    Calls Tryd.prog 31 #[.int .i64 p] w fun e w' => e = .returned (.int .i64 (wid p)) ∧ w = w' := by
  go_enter Tryd.func31, Tryd.ntmps31
  go_wp2
  all_goals go_ret
  all_goals refine ⟨ret_i64 ?_, rfl⟩
  all_goals unfold wid
  all_goals (repeat' split)
  all_goals first | rfl | omega
theorem twidth_any (p : Int) (w : World) :
    Calls Tryd.prog 39 #[.int .i64 p] w fun e w' => e = .returned (.int .i64 (wid p)) ∧ w = w' := by
  go_enter Tryd.func39, Tryd.ntmps39
  go_wp2
  all_goals go_ret
  all_goals refine ⟨ret_i64 ?_, rfl⟩
  all_goals unfold wid
  all_goals (repeat' split)
  all_goals first | rfl | omega
end Go.Proofs.YthblidbpicilkaaDoor
