/- The texts RqC of this proof. No conditions. -/
import Derived.Test.YtkfdhpbnphojoaaRows
import Derived.Test.YtkfdhpbnphojoaaKa3
/- Text RqC. -/
namespace Go.Proofs.Ytkfdhpbnphojoaa
open Go.ChangeShapes Go.WideShapes Go.ChangeAt Go.RowKit Gm
set_option maxRecDepth 100000 in
theorem enter_eqQ:Try.pinned.checked.prog.mayEnter=true:=by kernel_rfl
end Go.Proofs.Ytkfdhpbnphojoaa
