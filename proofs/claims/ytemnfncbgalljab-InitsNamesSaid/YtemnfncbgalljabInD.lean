/- Lemmas. No condition. -/
import Derived.Test.YtemnfncbgalljabIrC
namespace Go.Proofs.Ytemnfncbgalljab
open Go.RowKit
set_option linter.all false
end Go.Proofs.Ytemnfncbgalljab
