/- The types of the reference: what each call comes to. No condition. -/
import Derived.Test.YtmjklmdjlojmlaaShapeB
namespace Go.Proofs.Ytmjklmdjlojmlaa
open Go.RowKit


set_option maxHeartbeats 400000 in
theorem refpointer_any (k t : Int) (w : World) : Calls Try.prog 35 #[.agg #[.int .u8 k, .int .u8 t]] w (Ret w (.bool (decide (3 ≤ k)))) := by
  go_enter Try.func35, Try.ntmps35
  go_wp2
  go_ret
  refine ⟨ret_eq ?_, (Below.refl _ _).alloc (Nat.le_refl _) _⟩
  simp <;> omega




end Go.Proofs.Ytmjklmdjlojmlaa
