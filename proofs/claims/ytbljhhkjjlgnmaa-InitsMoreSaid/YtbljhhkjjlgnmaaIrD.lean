/- Layer 15 of the reference: the first local that a point reads and that is not set. No condition. -/
import Derived.Test.YtbljhhkjjlgnmaaInD
namespace Go.Proofs.Ytbljhhkjjlgnmaa
open Go.RowKit
set_option linter.unusedVariables false
set_option linter.unusedSimpArgs false




end Go.Proofs.Ytbljhhkjjlgnmaa
