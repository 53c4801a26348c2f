/- LivelyNames: halves, references, calls and loops, and errors. No condition. -/
import Derived.Test.YtbljhhkjjlgnmaaGreatLyA
import Derived.Test.YtbljhhkjjlgnmaaGreatN7
namespace Go.Proofs.YtbljhhkjjlgnmaaGreat
open Go.ChangeShapes Go.WideShapes Go.ChangeAt Go.RowKit
set_option linter.unusedVariables false
set_option linter.unusedSimpArgs false

set_option maxRecDepth 100000 in
theorem livelyNames_lifted (os : Os) (started : os.Started) (H : Type) (enc : TypeId × Value → H) :
    ReturnsInHanded {} Tryz.checked os 9 .any (Rows.livelyNamesSpec.pre6 enc Tryz.prog Tryz.f9 Rows.livelyNamesRow.domain false) (Rows.livelyNamesSpec.post enc Tryz.prog Tryz.f9 false true false false) := by
  refine returnsInHanded_of_change (C := Tryz.checked) Tryz.own started (by kernel_rfl) Tryz.func9
    (ChangeSpec.witness6 (enc := enc) (C := Tryz.checked) false ⟨#[], #[], []⟩ 8 (by kernel_rfl) (by kernel_rfl) (by kernel_rfl) (by kernel_rfl)) ?_
  intro W base args ds gs before hval0 hW _ _
  have hval : ∀ (j : Nat) t v, Tryz.f9.params[j]? = some t → args[j]? = some v → Value.okWide Tryz.prog W .any base t v := hval0
  have hW' := hW
  obtain ⟨p, q, hA0, hV, rfl, hfz, hnd⟩ := hW
  have hA : DataW.TrodAll enc Tryz.prog W 0 (fun _ => true) true Tryz.f9.params.toList args.toList ds p := hA0
  rw [Tryz.params9] at hA hval
  obtain ⟨rfl, rfl, rfl⟩ := trodAll_none hA
  refine (lnamesL W).mono fun e W' ⟨he, hb⟩ => ⟨_, he, law_post Tryz.laidOut rfl hW' ?_ rfl hb rfl Tryz.boolRow⟩
  intro T hT
  rw [Tryz.params9] at hT
  simp at hT

theorem livelyNames_holds : Rows.LivelyNamesSaid :=
  OpenClaim.holds_of_wide 9 Tryz.f9 rfl rfl rfl rfl rfl rfl rfl ⟨rfl, rfl, rfl, rfl, rfl⟩ rfl rfl rfl rfl rfl (by kernel_rfl) Tryz.func9 (by kernel_rfl)
    (of_decide_eq_true (by kernel_rfl)) (by unfold Func.isWrapper; rw [if_neg (by decide +kernel)]; exact ⟨rfl, rfl⟩)
    (fun os started H enc _ => livelyNames_lifted os started H enc)

end Go.Proofs.YtbljhhkjjlgnmaaGreat
