/- LivelyUses: what a point uses and sets, and what is live there. No condition. -/
import Derived.Test.YtamcjkgedgocfaaGreatV6
import Derived.Test.YtamcjkgedgocfaaGreatN6
namespace Go.Proofs.YtamcjkgedgocfaaGreat
open Go.RowKit
set_option linter.all false
theorem Qd2 {ar:BinOp→IntKind→Int→Int→Int} (har:ar=rAr) {S:Nat→Bool} {n l:Nat} (hn:n≤32) (hl:l<n):ar .and .u32 (ar .shr .u32 (.ofNat (mk S n)) (.ofNat l)) 1=if S l=true then 1 else 0:=by
 rw[Qv6 har (by omega)]
 have h1:mk S n / 2 ^ l<2 ^ 32:=Nat.lt_of_le_of_lt (Nat.div_le_self _ _) (Q4x hn)
 have:=Qu6 har (a:=mk S n / 2 ^ l) (b:=1) h1 (by decide)
 refine this.trans ?_
 rw[Nat.and_one_is_mod,Qa8,decide_eq_true hl]
 cases S l<;>rfl
end Go.Proofs.YtamcjkgedgocfaaGreat
