/- ClashTable, the walk. No condition. -/
import Derived.Test.YtgoeinkmndicfaaClMa
import Derived.Test.YtgoeinkmndicfaaClMb
import Derived.Test.YtgoeinkmndicfaaClMc
import Derived.Test.YtgoeinkmndicfaaClMd
import Derived.Test.YtgoeinkmndicfaaClMe
import Derived.Test.YtgoeinkmndicfaaClMf
import Derived.Test.YtgoeinkmndicfaaClMg
import Derived.Test.YtgoeinkmndicfaaClMn
namespace Go.Proofs.Ytgoeinkmndicfaa
open Go.RowKit
set_option linter.unusedVariables false
set_option linter.unusedSimpArgs false

set_option maxRecDepth 100000 in
set_option maxHeartbeats 32000000 in
theorem clashTableC (p q : GPlace) (k : Int) (p0 : 0 ≤ p.f) (q0 : 0 ≤ q.f) (k0 : 0 ≤ k) (w : World) :
    Calls Try.prog 4 #[.agg #[.int .i64 p.l, .bool p.d, .int .u8 p.f], .agg #[.int .i64 q.l, .bool q.d, .int .u8 q.f], .int .u8 k] w (Ret w (.bool true)) := by
  by_cases hp : p.ok = true
  case neg => exact tabNp p q k p0 q0 k0 hp w
  by_cases hq : q.ok = true
  case neg => exact tabNq p q k p0 q0 k0 hp hq w
  by_cases hk : 1 ≤ k ∧ k ≤ 3
  case neg => exact tabNk p q k p0 q0 k0 hp hq hk w
  have hov := over_root (t := p) (l := q)
  have h1 (wc : World) := overlapC p q hp hq p0 q0 wc
  have h2 (wc : World) (w d u : Bool) := tabC p q k w d u hp hq p0 q0 hk _ _ rfl rfl wc
  obtain ⟨zo, hzo⟩ : ∃ z, z = overB p q := ⟨_, rfl⟩
  obtain ⟨zb, hzb⟩ : ∃ z, z = behB p q := ⟨_, rfl⟩
  rw [← hzo] at h1
  rw [← hzo, ← hzb] at h2
  rw [← hzo, ← hzb] at hov
  simp only [behB, wholeP] at hzb
  clear hzo p0 q0 k0
  obtain ⟨pl, pd, pf⟩ := p
  obtain ⟨ql, qd, qf⟩ := q
  simp only at h1 h2 hzb
  have hk : k = 1 ∨ k = 2 ∨ k = 3 := by omega
  cases zb
  · rcases hk with rfl | rfl | rfl
    · cases zo
      · exact tabF1f pl pf ql qf pd qd hp hq h1 h2 hzb w
      · exact tabF1t pl pf ql qf pd qd hp hq h1 h2 hzb w
    · cases zo
      · exact tabF2f pl pf ql qf pd qd hp hq h1 h2 hzb w
      · exact tabF2t pl pf ql qf pd qd hp hq h1 h2 hzb w
    · cases zo
      · exact tabF3f pl pf ql qf pd qd hp hq h1 h2 hzb w
      · exact tabF3t pl pf ql qf pd qd hp hq h1 h2 hzb w
  · rcases hk with rfl | rfl | rfl
    · exact tabT1 pl pf ql qf pd qd zo hp hq h1 h2 hzb (hov rfl) w
    · exact tabT2 pl pf ql qf pd qd zo hp hq h1 h2 hzb (hov rfl) w
    · exact tabT3 pl pf ql qf pd qd zo hp hq h1 h2 hzb (hov rfl) w

end Go.Proofs.Ytgoeinkmndicfaa
