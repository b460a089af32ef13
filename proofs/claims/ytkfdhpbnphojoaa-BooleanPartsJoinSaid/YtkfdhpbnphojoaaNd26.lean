/- Part of the proof. -/
import Derived.Test.YtkfdhpbnphojoaaNd3
set_option maxRecDepth 100000
namespace Go.Proofs.Ytkfdhpbnphojoaa
open Go.ChangeShapes Go.WideShapes Go.ChangeAt Go.RowKit Gm
theorem zFG:Try.pinned.checked.prog.mayEnter=true:=by kernel_rfl
end Go.Proofs.Ytkfdhpbnphojoaa
