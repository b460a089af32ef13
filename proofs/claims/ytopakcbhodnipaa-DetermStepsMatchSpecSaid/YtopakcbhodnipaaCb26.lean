/- The texts RqB of this proof. No conditions. -/
import Derived.Test.YtopakcbhodnipaaRows
import Derived.Test.YtopakcbhodnipaaCb3
/- Text RqB. -/
namespace Go.Proofs.Ytopakcbhodnipaa
open Go.ChangeShapes Go.WideShapes Go.ChangeAt Go.RowKit Gm
set_option maxRecDepth 100000 in
theorem make_eqQ : Try.pinned.checked.prog.make = some Rows.determTablesMatchSpecRow.make := by kernel_rfl
end Go.Proofs.Ytopakcbhodnipaa
