/- The texts RqA of this proof. No conditions. -/
import Derived.Test.YtkfdhpbnphojoaaRows
import Derived.Test.YtkfdhpbnphojoaaKa3
/- Text RqA. -/
namespace Go.Proofs.Ytkfdhpbnphojoaa
open Go.ChangeShapes Go.WideShapes Go.ChangeAt Go.RowKit Gm
set_option maxRecDepth 100000 in
theorem lifts_eqQ:Try.pinned.checked.prog.liftsFinal=Rows.determEquivalentMatchesSpecRow.lifted:=by kernel_rfl
end Go.Proofs.Ytkfdhpbnphojoaa
