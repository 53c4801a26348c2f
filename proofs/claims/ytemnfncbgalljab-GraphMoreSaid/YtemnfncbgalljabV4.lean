/- Lemmas. No condition. -/
import Derived.Test.YtemnfncbgalljabV3
import Derived.Scope
namespace Go.Proofs.Ytemnfncbgalljab
open Go.RowKit Go.Shelf Go.Sort
set_option linter.all false
section
variable {P:Program} {Q:E9z} {c:R9z} {w0:Base}
end
end Go.Proofs.Ytemnfncbgalljab
