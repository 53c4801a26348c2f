/- SolveNames: limits and errors, a chain of references. No condition. -/
import Derived.Test.YtmceonmlgcbcmaaGreatSnB
import Derived.Test.YtmceonmlgcbcmaaGreatN7
namespace Go.Proofs.YtmceonmlgcbcmaaGreat
open Go.ChangeShapes Go.WideShapes Go.ChangeAt Go.RowKit
set_option linter.unusedVariables false
set_option linter.unusedSimpArgs false
set_option maxRecDepth 100000 in
theorem solveNames_lifted (os : Os) (started : os.Started) (H : Type) (enc : TypeId × Value → H) :
 ReturnsInHanded {} Tryz.checked os 7 .any (Rows.solveNamesSpec.pre6 enc Tryz.prog Tryz.f7 Rows.solveNamesRow.domain false) (Rows.solveNamesSpec.post enc Tryz.prog Tryz.f7 false true false false) := by
 refine returnsInHanded_of_change (C := Tryz.checked) Tryz.own started (by kernel_rfl) Tryz.func7
  (ChangeSpec.witness6 (enc := enc) (C := Tryz.checked) false ⟨#[], #[], []⟩ 8 (by kernel_rfl) (by kernel_rfl) (by kernel_rfl) (by kernel_rfl)) ?_
 intro W base args ds gs before hval0 hW _ _
 have hval : ∀ (j : Nat) t v, Tryz.f7.params[j]? = some t → args[j]? = some v → Value.okWide Tryz.prog W .any base t v := hval0
 have hW' := hW
 obtain ⟨p, q, hA0, hV, rfl, hfz, hnd⟩ := hW
 have hA : DataW.TrodAll enc Tryz.prog W 0 (fun _ => true) true Tryz.f7.params.toList args.toList ds p := hA0
 rw [Tryz.params7] at hA hval
 obtain ⟨rfl, rfl, rfl⟩ := trodAll_none hA
 refine (snamesL W).mono fun e W' ⟨he, hb⟩ => ⟨_, he, law_post Tryz.laidOut rfl hW' ?_ rfl hb rfl Tryz.boolRow⟩
 intro T hT
 rw [Tryz.params7] at hT
 simp at hT
theorem solveNames_holds : Rows.SolveNamesSaid :=
 OpenClaim.holds_of_wide 7 Tryz.f7 rfl rfl rfl rfl rfl rfl rfl ⟨rfl, rfl, rfl, rfl, rfl⟩ rfl rfl rfl rfl rfl (by kernel_rfl) Tryz.func7 (by kernel_rfl)
  (of_decide_eq_true (by kernel_rfl)) (by unfold Func.isWrapper; rw [if_neg (by decide +kernel)]; exact ⟨rfl, rfl⟩)
  (fun os started H enc _ => solveNames_lifted os started H enc)
end Go.Proofs.YtmceonmlgcbcmaaGreat
