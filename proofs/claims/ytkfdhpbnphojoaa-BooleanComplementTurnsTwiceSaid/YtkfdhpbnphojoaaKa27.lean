/- The texts RqB of this proof. No conditions. -/
import Derived.Test.YtkfdhpbnphojoaaRows
import Derived.Test.YtkfdhpbnphojoaaKa3
/- Text RqB. -/
namespace Go.Proofs.Ytkfdhpbnphojoaa
open Go.ChangeShapes Go.WideShapes Go.ChangeAt Go.RowKit Gm
set_option maxRecDepth 100000 in
theorem make_eqQ:Try.pinned.checked.prog.make=some Rows.determEquivalentMatchesSpecRow.make:=by kernel_rfl
end Go.Proofs.Ytkfdhpbnphojoaa
