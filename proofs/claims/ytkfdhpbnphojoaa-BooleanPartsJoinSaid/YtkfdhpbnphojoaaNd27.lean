/- Part of the proof. -/
import Derived.Test.YtkfdhpbnphojoaaNd3
set_option maxRecDepth 100000
namespace Go.Proofs.Ytkfdhpbnphojoaa
open Go.ChangeShapes Go.WideShapes Go.ChangeAt Go.RowKit Gm
theorem zGU:Try.pinned.checked.prog.make=some Rows.determEquivalentMatchesSpecRow.make:=by kernel_rfl
end Go.Proofs.Ytkfdhpbnphojoaa
