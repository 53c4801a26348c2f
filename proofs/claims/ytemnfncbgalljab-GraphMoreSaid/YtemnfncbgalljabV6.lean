/- Lemmas. No condition. -/
import Derived.Test.YtemnfncbgalljabLvL
namespace Go.Proofs.Ytemnfncbgalljab
open Go.RowKit
set_option linter.all false
section
open Go.RowKit Go.Shelf Go.Sort
end
end Go.Proofs.Ytemnfncbgalljab
