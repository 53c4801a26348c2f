/- Layer 15 of the reference: which points are reached. No condition. -/
import Derived.Test.YtbljhhkjjlgnmaaIrA
import Derived.Test.YtbljhhkjjlgnmaaSpA
namespace Go.Proofs.Ytbljhhkjjlgnmaa
open Go.RowKit
set_option linter.unusedVariables false
set_option linter.unusedSimpArgs false

def reG (F : GFun) : SwG := ⟨stN F.sn F.bn, rsucc F, fun _ b => b, fun n => decide (n = 0)⟩

theorem reG_eq {F : GFun} (hO : F.Ok) {n : Nat} (hn : n < stN F.sn F.bn) : (reG F).sB n = reachB F (pbN F n) := by
  have key : Cl (reG F).Z (reG F).R n ↔ ReachG (succN F) n := by
    constructor
    · intro h
      induction h with
      | zero h =>
        rcases h with h | ⟨m, _, h, _⟩
        · have := of_decide_eq_true h.2
          rw [this]; exact .zero
        · cases h
      | step _ h ih => exact .step (ih h.1) ((rsucc_mem h.1).1 h.2.2)
    · intro h
      have hlt : ∀ j, ReachG (succN F) j → j < stN F.sn F.bn := fun j h => by
        induction h with
        | zero => exact pts_pos hO
        | step _ hn ih => exact succN_lt hO ih _ hn
      clear hn
      induction h with
      | zero => exact .zero (.inl ⟨pts_pos hO, rfl⟩)
      | step hb hn ih => exact .step ih ⟨hlt _ hb, rfl, (rsucc_mem (hlt _ hb)).2 hn⟩
  have h2 := reachG_pt hO hn
  unfold SwG.sB
  have h1 := clB_iff (Z := (reG F).Z) (R := (reG F).R) (n := n)
  rw [key, h2] at h1
  cases hs : clB (reG F).Z (reG F).R n <;> cases hr : reachB F (pbN F n) <;> simp_all


end Go.Proofs.Ytbljhhkjjlgnmaa
