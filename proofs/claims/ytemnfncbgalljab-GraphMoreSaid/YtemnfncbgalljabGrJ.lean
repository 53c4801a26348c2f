/- Lemmas. No condition. -/
import Derived.Test.YtemnfncbgalljabGrI
namespace Go.Proofs.Ytemnfncbgalljab
open Go.RowKit
set_option linter.all false
set_option maxRecDepth 100000
set_option maxHeartbeats 64000000
def fit7 (F:GFun):Bool:= !gfB F&&decide (Qvca F=0)
theorem fit7_ok {F:GFun} (h:fit7 F=true):F.Ok:=by
 simp only[fit7,Bool.and_eq_true,decide_eq_true_eq] at h
 exact (Qdj F).symm.trans h.2
theorem fit7_two {F:GFun} (h:fit7 F=true):gfB F=false/\Qvca F=0:=by
 simpa [fit7] using h
end Go.Proofs.Ytemnfncbgalljab
