/- Texts joined: SvD CnD. No condition. -/
import Derived.Test.YtamcjkgedgocfaaGreatN6
import Derived.Test.YtamcjkgedgocfaaGreatPtA
namespace Go.Proofs.YtamcjkgedgocfaaGreat
open Go.RowKit
set_option linter.all false
section
theorem Qfs (L:List KCon):Qic [Q4z L]:=⟨fun _ _=>rfl,trivial⟩
end
section
section
variable {P:Program} {Q:Exit→Act→World→Prop} {c:Nat→Nat→Row} {w0:Base}
theorem Qnf {o o':Out} (h:o=o') (g:OutOk P Q c w0 o'):OutOk P Q c w0 o:=by rw[h];exact g
end
end
end Go.Proofs.YtamcjkgedgocfaaGreat
