/- ClashTable holds of every two places and kind. No condition. -/
import Derived.Test.YtgoeinkmndicfaaClM
import Derived.Test.YtgoeinkmndicfaaOpenT
namespace Go.Proofs.Ytgoeinkmndicfaa
open Go.ChangeShapes Go.WideShapes Go.ChangeAt Go.RowKit
set_option linter.unusedVariables false
set_option linter.unusedSimpArgs false

set_option maxRecDepth 100000 in
theorem clashTable_lifted (os : Os) (started : os.Started) (H : Type) (enc : TypeId × Value → H) :
    ReturnsInHanded {} Try.checked os 4 .any (Rows.clashTableSpec.pre6 enc Try.prog Try.f4 Rows.clashTableRow.domain false) (Rows.clashTableSpec.post enc Try.prog Try.f4 false true false false) := by
  refine returnsInHanded_of_change (C := Try.checked) Try.own started (by kernel_rfl) Try.func4
    (ChangeSpec.witness6 (enc := enc) (C := Try.checked) false ⟨#[], #[.agg #[.int .i64 0, .bool false, .int .u8 0], .agg #[.int .i64 0, .bool false, .int .u8 0], .int .u8 0], []⟩ 8 (by kernel_rfl) (by kernel_rfl) (by kernel_rfl) (by kernel_rfl)) ?_
  intro W base args ds gs before hval0 hW _ _
  have hval : ∀ (j : Nat) t v, Try.f4.params[j]? = some t → args[j]? = some v → Value.okWide Try.prog W .any base t v := hval0
  have hW' := hW
  obtain ⟨p, q, hA0, hV, rfl, hfz, hnd⟩ := hW
  have hA : DataW.TrodAll enc Try.prog W 0 (fun _ => true) true Try.f4.params.toList args.toList ds p := hA0
  rw [Try.params4] at hA hval
  obtain ⟨v0, v1, v2, d0, d1, d2, p0, p1, p2, rfl, rfl, rfl, h0, h1, h2⟩ := trodAll_three hA
  obtain ⟨l0, x0, f0, rfl, b01, b02, b03, b04⟩ := open_place h0 (hval 0 27 v0 rfl rfl)
  obtain ⟨l1, x1, f1, rfl, b11, b12, b13, b14⟩ := open_place h1 (hval 1 27 v1 rfl rfl)
  obtain ⟨n2, rfl, b21, b22⟩ := open_byte h2 (hval 2 5 v2 rfl rfl)
  refine (clashTableC ⟨l0, x0, f0⟩ ⟨l1, x1, f1⟩ n2 b03 b13 b21 W).mono fun e W' ⟨he, hb⟩ => ⟨_, he, law_post Try.laidOut rfl hW' ?_ rfl hb rfl Try.boolRow⟩
  intro T hT
  rw [Try.params4] at hT
  simp only [List.mem_cons, List.not_mem_nil, or_false] at hT
  rcases hT with rfl | rfl | rfl
  all_goals exact ⟨by kernel_rfl, of_decide_eq_true (by kernel_rfl)⟩

theorem clashTable_holds : Rows.ClashTableSaid :=
  OpenClaim.holds_of_wide 4 Try.f4 rfl rfl rfl rfl rfl rfl rfl ⟨rfl, rfl, rfl, rfl, rfl⟩ rfl rfl rfl rfl rfl (by kernel_rfl) Try.func4 (by kernel_rfl)
    (of_decide_eq_true (by kernel_rfl)) (by unfold Func.isWrapper; rw [if_neg (by decide +kernel)]; exact ⟨rfl, rfl⟩)
    (fun os started H enc _ => clashTable_lifted os started H enc)

end Go.Proofs.Ytgoeinkmndicfaa
