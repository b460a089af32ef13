/- The law LettersComeBack, walked: it returns true. -/
import Derived.Test.YtcchpijadlgagaaDoorTxL1
namespace Go.Proofs.YtcchpijadlgagaaDoor
open Go.RowKit Gm
set_option linter.unusedSimpArgs false
theorem bytes_eta (s : ByteArray) : (⟨s.data.toList.toArray⟩ : ByteArray) = s := by cases s; simp
theorem fEq_ne {a b : Int} (h : a ≠ 0) : fEq a b 0 0 = false := fEq_false (fun h1 => h h1.1)
end Go.Proofs.YtcchpijadlgagaaDoor
