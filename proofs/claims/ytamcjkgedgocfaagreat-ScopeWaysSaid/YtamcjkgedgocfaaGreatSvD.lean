/- Layer 19, the chapter's examples. No condition. -/
import Derived.Test.YtamcjkgedgocfaaGreatN6
namespace Go.Proofs.YtamcjkgedgocfaaGreat
open Go.RowKit
set_option linter.unusedVariables false
set_option linter.unusedSimpArgs false
theorem conPlain (L:List KCon):plainR [conR L]:=⟨fun _ _=>rfl,trivial⟩
end Go.Proofs.YtamcjkgedgocfaaGreat
