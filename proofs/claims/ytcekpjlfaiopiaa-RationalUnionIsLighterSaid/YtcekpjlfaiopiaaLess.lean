/- The reference's order of arcs: less. -/
import Derived.Test.YtcekpjlfaiopiaaCmp
namespace Gm
open Go Go.RowKit
theorem lessL_step {l k : List Int} {j : Nat} (h1 : j < l.length) (h2 : l.length = k.length) : lessL (l.drop j) (k.drop j) = if l.getD j 0 = k.getD j 0 then lessL (l.drop (j + 1)) (k.drop (j + 1)) else decide (l.getD j 0 < k.getD j 0) := by
  rw [List.drop_eq_getElem_cons h1, List.drop_eq_getElem_cons (show j < k.length by omega)]
  simp [lessL, h1, show j < k.length by omega]
theorem lessL_end {l k : List Int} {j : Nat} (h1 : l.length ≤ j) : lessL (l.drop j) k = false := by
  rw [List.drop_eq_nil_of_le h1]; cases k <;> rfl
theorem key_cell (a : Arc) (k : Nat) (hk : k < 5) : (#[Value.int .i64 a.f, .int .i64 a.i, .int .i64 a.o, .int .i64 a.t, .int .i64 a.w] : Array Value)[k]? = some (.int .i64 ((arcKey a).getD k 0)) := by
  rcases (by omega : k = 0 ∨ k = 1 ∨ k = 2 ∨ k = 3 ∨ k = 4) with rfl | rfl | rfl | rfl | rfl <;> rfl
end Gm
namespace Go.Proofs.Ytcekpjlfaiopiaa
open Go.RowKit Gm
set_option linter.unusedSimpArgs false
end Go.Proofs.Ytcekpjlfaiopiaa
