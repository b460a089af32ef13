/- token.Join, walked. -/
import Derived.Test.YtcchpijadlgagaaDoorTkS
import Derived.Test.YtcchpijadlgagaaDoorShelf
import Derived.Deep.LoopGhost
import Derived.Lib.Join
namespace Gm
open Go Go.RowKit
def strRow (l : List (List UInt8)) : List Value := l.map fun x => .string ⟨x.toArray⟩
theorem strRow_length (l : List (List UInt8)) : (strRow l).length = l.length := by simp [strRow]
theorem strRow_append (l k : List (List UInt8)) : strRow (l ++ k) = strRow l ++ strRow k := by simp [strRow]
theorem strRow_at (l : List (List UInt8)) : ∀ i j, i < l.length → j < 1 → (strRow l)[i * 1 + j]? = some (strCell l i j) := by
  intro i j hi hj
  obtain rfl : j = 0 := by omega
  simp [strRow, strCell, hi]
theorem join_nil_sep (xs : List (List UInt8)) : Lib.join xs [] = xs.flatten := by
  cases xs with
  | nil => rfl
  | cons a l => rw [Lib.join_cons]; simp [Lib.joinTail]
theorem flat_take {l : List (List UInt8)} {k : Nat} (h : k < l.length) : (l.take (k + 1)).flatten.length = (l.take k).flatten.length + (l.getD k []).length := by
  rw [List.take_add_one, List.flatten_append, List.length_append]
  congr 1
  simp [h, List.getD]
theorem flat_le {l : List (List UInt8)} (h : ∀ x ∈ l, x.length ≤ 4000) : l.flatten.length ≤ 4000 * l.length := by
  induction l with
  | nil => simp
  | cons a l ih =>
    have h1 := h a (by simp)
    have h2 := ih (fun x hx => h x (by simp [hx]))
    simp only [List.flatten_cons, List.length_append, List.length_cons]
    omega
theorem flat_take_le (l : List (List UInt8)) (k : Nat) : (l.take k).flatten.length ≤ l.flatten.length := by
  have : l.flatten.length = (l.take k).flatten.length + (l.drop k).flatten.length := by
    rw [← List.length_append, ← List.flatten_append, List.take_append_drop]
  omega
end Gm
namespace Go.Proofs.YtcchpijadlgagaaDoor
open Go.RowKit Gm
set_option linter.unusedSimpArgs false
set_option linter.unusedVariables false
theorem run_neqS (a b : ByteArray) (h : a ≠ b) (W : World) : (binOp .neq 9 (.string a) (.string b)).run Tryd.prog W = .ok (.bool true) W := by
  have h2 : ¬ a.data = b.data := fun e => h (ByteArray.ext e)
  simp [go_sem, Lib.toList_data, h2]
theorem run_neqS0 (a : ByteArray) (W : World) : (binOp .neq 9 (.string a) (.string a)).run Tryd.prog W = .ok (.bool false) W := by
  simp [go_sem]
theorem run_eqS0 (a : ByteArray) (W : World) : (binOp .eql 9 (.string a) (.string a)).run Tryd.prog W = .ok (.bool true) W := by
  simp [go_sem]
theorem str_info : (Tryd.prog.info? 9).map (fun i => (i.zero, i.size, i.bytes)) = some (some (.string ⟨#[]⟩), 1, 16) := by kernel_rfl
end Go.Proofs.YtcchpijadlgagaaDoor
