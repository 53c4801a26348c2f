/- ClashNames, joined. No condition. -/
import Derived.Test.YtemnfncbgalljaaGreatClYa
import Derived.Test.YtemnfncbgalljaaGreatClYb
import Derived.Test.YtemnfncbgalljaaGreatClYc
import Derived.Test.YtemnfncbgalljaaGreatClYd
import Derived.Test.YtemnfncbgalljaaGreatClYe
import Derived.Test.YtemnfncbgalljaaGreatClYf
namespace Go.Proofs.YtemnfncbgalljaaGreat
theorem Qwia (w:World):
 Calls Tryz.prog 11 #[] w (Ret w (.bool true)):=(Quja w).join (Qyja w) (Qzja w) (Q0ja w) (Q1ja w) (Qvja w) (Qwja w) (Qxja w)
end Go.Proofs.YtemnfncbgalljaaGreat

