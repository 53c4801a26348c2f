/- ClashTable: what the table says. No condition. -/
import Derived.Test.YtgoeinkmndicfaaClL
import Derived.Test.YtgoeinkmndicfaaN1
namespace Go.Proofs.Ytgoeinkmndicfaa
open Go.RowKit
set_option linter.unusedVariables false
set_option linter.unusedSimpArgs false

theorem rPlaceOk' (l f : Int) (d : Bool) (h : (GPlace.mk l d f).ok = true) (w : World) :
    Calls Try.prog 13 #[.agg #[.int .i64 l, .bool d, .int .u8 f]] w (Ret w (.int .i64 0)) := by
  have := rPlaceChkF l f d w
  rw [h] at this
  exact this
theorem beh_no {pd qd : Bool} {pf ql pl : Int} (h : false = (!pd && pf == 0 && qd && ql == pl)) (a : (true && (decide (pd = false) && decide (pf = 0))) = true) (b : qd = true) (c : decide (ql = pl) = true) : False := by
  cases pd <;> simp_all
/-- What the table says. -/
def tabB (zo zb : Bool) (k : Int) (w d u : Bool) : Bool :=
  if zb && !d then w && (k == 3 && !u) else if !zo && !zb then false else w || (k != 1 && !(k == 3 && !u))
theorem con_tab (p q : GPlace) (k : Int) (w d u : Bool) : conB ⟨p, w, d⟩ ⟨0, q, k, 0⟩ u = tabB (overB p q) (behB p q) k w d u := rfl
theorem tabC (p q : GPlace) (k : Int) (w d u : Bool) (hp : p.ok = true) (hq : q.ok = true) (p0 : 0 ≤ p.f) (q0 : 0 ≤ q.f) (hk : 1 ≤ k ∧ k ≤ 3) (zo zb : Bool) (ho : zo = overB p q) (hb : zb = behB p q) (wc : World) :
    Calls Try.prog 9 #[.agg #[.int .i64 p.l, .bool p.d, .int .u8 p.f, .bool w, .bool d], .agg #[.int .i64 0, .int .i64 q.l, .bool q.d, .int .u8 q.f, .int .u8 k, .int .i64 0], .bool u] wc (Ret wc (.tuple #[.bool (tabB zo zb k w d u), .int .i64 0])) := by
  have := clashesC ⟨p, w, d⟩ ⟨0, q, k, 0⟩ u p0 q0 wc
  have e : askB ⟨p, w, d⟩ ⟨0, q, k, 0⟩ = true := by simp [askB, hp, hq, hk.1, hk.2]
  rw [e, cond_true, con_tab, ← ho, ← hb] at this
  exact this

end Go.Proofs.Ytgoeinkmndicfaa
