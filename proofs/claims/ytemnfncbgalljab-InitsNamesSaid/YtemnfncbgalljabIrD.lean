/- Lemmas. No condition. -/
import Derived.Test.YtemnfncbgalljabInD
namespace Go.Proofs.Ytemnfncbgalljab
open Go.RowKit
set_option linter.all false
end Go.Proofs.Ytemnfncbgalljab
