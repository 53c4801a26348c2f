/- A second way to walk: a halt in a walk. No condition. -/
import Derived.Test.YtbimggeapaaliaaSxK
namespace Go.Proofs.Ytbimggeapaaliaa
open Go.RowKit
set_option linter.unusedVariables false
set_option linter.unusedSimpArgs false

/-- A goal that is taken up later. -/
def Halt (p : Prop) : Prop := p
theorem halt {p : Prop} (h : Halt p) : p := h
theorem unhalt {p : Prop} (h : p) : Halt p := h

end Go.Proofs.Ytbimggeapaaliaa
