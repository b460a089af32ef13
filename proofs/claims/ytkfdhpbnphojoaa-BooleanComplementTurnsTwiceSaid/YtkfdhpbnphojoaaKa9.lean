/- The texts TrimA of this proof. No conditions. -/
import Derived.Test.YtkfdhpbnphojoaaKa6
import Derived.Test.YtkfdhpbnphojoaaKa2
/- Text TrimA. -/
namespace Gm
open Go
end Gm
namespace Go.Proofs.Ytkfdhpbnphojoaa
open Go.RowKit Gm
set_option linter.unusedSimpArgs false
theorem arc_info:(Try.prog.info? 64).map (fun i=>(i.zero,i.size,i.bytes))=some (some (.agg #[.int .i64 0,.int .i64 0,.int .i64 0,.int .i64 0,.int .i64 0]),5,40):=by kernel_rfl
theorem fin_info:(Try.prog.info? 69).map (fun i=>(i.zero,i.size,i.bytes))=some (some (.agg #[.int .i64 0,.int .i64 0]),2,16):=by kernel_rfl
end Go.Proofs.Ytkfdhpbnphojoaa
