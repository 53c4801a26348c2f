/- Lemmas. No condition. -/
import Derived.Ground.Names2Prog
import Derived.Test.YtemnfncbgalljabChecked
import Derived.Test.YtemnfncbgalljabV2
import Derived.Test.YtemnfncbgalljabPtA
namespace Go.Proofs.Ytemnfncbgalljab
open Go.Shelf
set_option linter.all false
section
open Go.RowKit Go.Shelf Go.Sort
end
section
open Go.RowKit Go.Shelf Go.Sort
def p1 (a:GPlace):Nat->GPlace:=fun _=>a
section
variable {c:R9z}
end
end
section
open Go.RowKit Go.Shelf Go.Sort
end
end Go.Proofs.Ytemnfncbgalljab
