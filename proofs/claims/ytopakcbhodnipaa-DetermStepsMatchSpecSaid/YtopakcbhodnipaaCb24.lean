/- The texts MnV of this proof. No conditions. -/
import Derived.Test.YtopakcbhodnipaaCb23
import Derived.Test.YtopakcbhodnipaaCb18
import Derived.Test.YtopakcbhodnipaaCb16
import Derived.Test.YtopakcbhodnipaaCb20
import Derived.Test.YtopakcbhodnipaaCb3
import Derived.Test.YtopakcbhodnipaaCb4
import Derived.Test.YtopakcbhodnipaaCb2
import Derived.Maps.AppendAt
import Derived.IntWalk
import Derived.Deep.Cut
import Derived.LoopTactic
/- Text MnV. -/
namespace Gm
open Go Go.RowKit
set_option linter.unusedSimpArgs false
set_option linter.unusedVariables false
def R2 (q s i : Nat) : List Int := if i < s then List.replicate q (-1) else []
def R3 (q s k i : Nat) : List Int := if i < s then List.replicate q (-1) else if i = s then List.replicate k (-1) ++ List.replicate (q - k) 0 else []
theorem made_own (w : World) (n : Nat) (t : TypeId) (hn : n ≤ 1000000) : (w.alloc (.cells (madeCells #[.int .i64 0] n) t)).ownsRow w.heap.size t 1 (.slice (some ⟨w.heap.size, 0, none⟩) n n) n (intRow (List.replicate n 0)) := by
 have h := own_of_blk (w := w.alloc (.cells (madeCells #[.int .i64 0] n) t)) (base := w.heap.size) (e := t) (cs := madeCells #[.int .i64 0] n) (Blk.at_ rfl) (Nat.le_refl _) (by rw [size_madeCells]; simp only [maxLen]; omega)
 rw [size_madeCells] at h
 have e : (madeCells #[Value.int .i64 0] n).toList = intRow (List.replicate n 0) := by
  refine List.ext_getElem? fun i => ?_
  unfold intRow madeCells
  by_cases hi : i < n
  · simp [hi, Nat.mod_one]
  · simp [hi]
 rw [e] at h
 exact h
end Gm
namespace Go.Proofs.Ytopakcbhodnipaa
open Go.RowKit Gm
set_option linter.unusedSimpArgs false
set_option linter.unusedVariables false
theorem deter_any (va : Value) (m : Mach) (w : World) (B : Nat) (hB : B ≤ w.heap.size) (ha : MachAt w B va m) :
 Calls Try.prog 32 #[va] w fun e w' => ∃ v1, e = .returned (.tuple #[v1, .agg #[.int .i64 (detW m).2.1, .int .i64 (detW m).2.2]]) ∧ MachNew w.heap.size w' v1 (detW m).1 ∧ Below w.heap.size w w' := by
 by_cases h1 : (silR m).2 = (0, 0)
 ·
  by_cases h2 : (silR m).1.n = 0
  · exact deter_bad va m w B hB ha (.inr h2)
  · exact deter_ok va m w B hB ha h1 h2
 · exact deter_bad va m w B hB ha (.inl h1)
end Go.Proofs.Ytopakcbhodnipaa
