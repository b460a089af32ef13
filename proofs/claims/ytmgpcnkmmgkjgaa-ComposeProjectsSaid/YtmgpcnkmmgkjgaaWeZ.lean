/- The reference's Weigh at any valid machine. -/
import Derived.Test.YtmgpcnkmmgkjgaaWtX
namespace Go.Proofs.Ytmgpcnkmmgkjgaa
open Go.RowKit Gm
set_option linter.unusedSimpArgs false
set_option linter.unusedVariables false
end Go.Proofs.Ytmgpcnkmmgkjgaa
