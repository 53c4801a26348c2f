/- Texts joined: IrA LwB LwC. No condition. -/
import Derived.Test.YtamcjkgedgocfaaGreatPtA
import Derived.Test.YtamcjkgedgocfaaGreatI1
import Derived.Test.YtamcjkgedgocfaaGreatLvP
namespace Go.Proofs.YtamcjkgedgocfaaGreat
open Go.RowKit
set_option linter.all false
section
end
section
end
section
namespace DnG
abbrev DS:=(Nat→Bool)×Bool
variable (rs:Nat→List Nat) (st:Nat→Bool)
def step (x:DS) (n:Nat):DS:=if (x.1 n||st n)=true then x else (fun j=>if j=n then (rs n).any x.1 else x.1 j,x.2||(rs n).any x.1)
def dn (R:Nat→Bool) (N:Nat):Nat→DS
 | 0=>(R,false)
 | k+1=>step rs st (dn R N k) (N - 1 - k)
def W (R:Nat→Bool) (N t:Nat):DS:=dn rs st R N (N - t)
end DnG
end
end Go.Proofs.YtamcjkgedgocfaaGreat
