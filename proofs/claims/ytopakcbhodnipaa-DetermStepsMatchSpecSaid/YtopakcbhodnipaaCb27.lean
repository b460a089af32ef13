/- The texts RqA of this proof. No conditions. -/
import Derived.Test.YtopakcbhodnipaaRows
import Derived.Test.YtopakcbhodnipaaCb3
/- Text RqA. -/
namespace Go.Proofs.Ytopakcbhodnipaa
open Go.ChangeShapes Go.WideShapes Go.ChangeAt Go.RowKit Gm
set_option maxRecDepth 100000 in
theorem lifts_eqQ : Try.pinned.checked.prog.liftsFinal = Rows.determTablesMatchSpecRow.lifted := by kernel_rfl
end Go.Proofs.Ytopakcbhodnipaa
