/- ShapeNames: the chapter's examples, all texts and numbers, types that are not valid, and errors. No condition. -/
import Derived.Test.YthkfadnkonokdaaNames
import Derived.Test.YthkfadnkonokdaaLift
namespace Go.Proofs.Ythkfadnkonokdaa
open Go.ChangeShapes Go.WideShapes Go.ChangeAt Go.RowKit

set_option maxRecDepth 100000 in
theorem shapeNames_lifted (os : Os) (started : os.Started) (H : Type) (enc : TypeId × Value → H) :
    ReturnsInHanded {} Try.checked os 7 .any (Rows.shapeNamesSpec.pre6 enc Try.prog Try.f7 Rows.shapeNamesRow.domain false) (Rows.shapeNamesSpec.post enc Try.prog Try.f7 false true false false) := by
  refine returnsInHanded_of_change (C := Try.checked) Try.own started (by kernel_rfl) Try.func7
    (ChangeSpec.witness6 (enc := enc) (C := Try.checked) false ⟨#[], #[], []⟩ 8 (by kernel_rfl) (by kernel_rfl) (by kernel_rfl) (by kernel_rfl)) ?_
  intro W base args ds gs before hval0 hW _ _
  have hval : ∀ (j : Nat) t v, Try.f7.params[j]? = some t → args[j]? = some v → Value.okWide Try.prog W .any base t v := hval0
  have hW' := hW
  obtain ⟨p, q, hA0, hV, rfl, hfz, hnd⟩ := hW
  have hA : DataW.TrodAll enc Try.prog W 0 (fun _ => true) true Try.f7.params.toList args.toList ds p := hA0
  rw [Try.params7] at hA hval
  obtain ⟨rfl, rfl, rfl⟩ := trodAll_none hA
  refine (names_walk W).mono fun e W' ⟨he, hb⟩ => ⟨_, he, law_post Try.laidOut rfl hW' ?_ rfl hb rfl Try.boolRow⟩
  intro T hT
  rw [Try.params7] at hT
  simp at hT

theorem shapeNames_holds : Rows.ShapeNamesSaid :=
  OpenClaim.holds_of_wide 7 Try.f7 rfl rfl rfl rfl rfl rfl rfl ⟨rfl, rfl, rfl, rfl, rfl⟩ rfl rfl rfl rfl rfl (by kernel_rfl) Try.func7 (by kernel_rfl)
    (of_decide_eq_true (by kernel_rfl)) (by unfold Func.isWrapper; rw [if_neg (by decide +kernel)]; exact ⟨rfl, rfl⟩)
    (fun os started H enc _ => shapeNames_lifted os started H enc)

end Go.Proofs.Ythkfadnkonokdaa
