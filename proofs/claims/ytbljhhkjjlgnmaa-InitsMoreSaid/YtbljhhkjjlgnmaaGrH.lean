/- Layer 11, what its laws ask first. No condition. -/
import Derived.Test.YtbljhhkjjlgnmaaGrG
namespace Go.Proofs.Ytbljhhkjjlgnmaa
open Go.RowKit
set_option linter.unusedVariables false
set_option linter.unusedSimpArgs false




end Go.Proofs.Ytbljhhkjjlgnmaa
