/- Lemmas. No condition. -/
import Derived.Test.YtemnfncbgalljabV5
namespace Go.Proofs.Ytemnfncbgalljab
open Go.RowKit Go.Maps
set_option linter.all false
end Go.Proofs.Ytemnfncbgalljab
