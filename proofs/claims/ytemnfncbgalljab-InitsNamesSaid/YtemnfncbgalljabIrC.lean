/- Lemmas. No condition. -/
import Derived.Test.YtemnfncbgalljabW4
import Derived.Test.YtemnfncbgalljabInC
namespace Go.Proofs.Ytemnfncbgalljab
open Go.RowKit
set_option linter.all false
def mvN (g:Nat->GOper) (x:Int):Nat->Nat
 | 0=>0
 | k+1=>mvN g x k+if (g k).k=3/\(g k).p.l=x then 1 else 0
end Go.Proofs.Ytemnfncbgalljab
