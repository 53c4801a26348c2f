/- Layer 19, the chapter's examples. No condition. -/
import Derived.Test.YtaafofmfbcnaaaaGreatN6
namespace Go.Proofs.YtaafofmfbcnaaaaGreat
open Go.RowKit
set_option linter.unusedVariables false
set_option linter.unusedSimpArgs false
theorem conPlain (L:List KCon):plainR [conR L]:=⟨fun _ _=>rfl,trivial⟩
end Go.Proofs.YtaafofmfbcnaaaaGreat
