/- The reference's MachineFault returns the first fault of a machine. -/
import Derived.Test.YtcekpjlfaiopiaaLess
import Derived.Deep.CutRange
import Derived.Deep.DeepCutAuto
namespace Go.Proofs.Ytcekpjlfaiopiaa
open Go.RowKit Gm
set_option linter.unusedSimpArgs false
end Go.Proofs.Ytcekpjlfaiopiaa
