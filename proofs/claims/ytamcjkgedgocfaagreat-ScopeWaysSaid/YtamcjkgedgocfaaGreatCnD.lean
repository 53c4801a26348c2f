/- Layer 19 of the reference: the constraint of each kind that a point has, all constraints of a function. No condition. -/
import Derived.Test.YtamcjkgedgocfaaGreatN6
import Derived.Test.YtamcjkgedgocfaaGreatPtA
namespace Go.Proofs.YtamcjkgedgocfaaGreat
open Go.RowKit
set_option linter.unusedVariables false
set_option linter.unusedSimpArgs false
section
variable {P:Program} {Q:Exit→Act→World→Prop} {c:Nat→Nat→Row} {w0:Base}
theorem out_eq {o o':Out} (h:o=o') (g:OutOk P Q c w0 o'):OutOk P Q c w0 o:=by rw[h];exact g
end
end Go.Proofs.YtamcjkgedgocfaaGreat

