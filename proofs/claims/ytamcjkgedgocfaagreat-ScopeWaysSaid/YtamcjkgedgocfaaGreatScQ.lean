/- Layer 22: where loans are in scope, point by point: the plain law of ScopeReasons. No condition. -/
import Derived.Test.YtamcjkgedgocfaaGreatC2
namespace Go.Proofs.YtamcjkgedgocfaaGreat
open Go.RowKit
set_option linter.unusedVariables false
set_option linter.unusedSimpArgs false
section
variable (F:GFun) (k:Nat)
variable {F k}
end
theorem wy_bit1 {F:GFun} (hO:F.Ok) {k:Nat} (hk:k<lnC F) (h3:(stAt F (lpN F k)).r.bo=3) (n:Nat):decide (rAr .and .u32 (rAr .shr .u32 (.ofNat (umN F n)) (lnL F (lpN F k))) 1=1)=(wyF F k).tw n:=by
 obtain ⟨h1,h2⟩:=lnL_two hO hk h3
 have hl:=hO.ln16
 have e:lnL F (lpN F k)=.ofNat (lnL F (lpN F k)).toNat:=(Int.toNat_of_nonneg h1).symm
 rw[e]
 unfold umN
 rw[bit_is rfl (by omega) (by omega)]
 show _=(decide ((stAt F (lpN F k)).r.bo=3)&&_)
 rw[decide_eq_true h3,Bool.true_and]
 cases uB F (pbN F n) (piN F n) (lnL F (lpN F k)).toNat<;>rfl
end Go.Proofs.YtamcjkgedgocfaaGreat
