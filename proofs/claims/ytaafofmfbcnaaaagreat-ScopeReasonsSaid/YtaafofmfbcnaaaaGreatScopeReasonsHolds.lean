/- ScopeReasons: a loan is in scope only at points of its region that follow one at which it is in scope. No condition. -/
import Derived.Test.YtaafofmfbcnaaaaGreatScR
import Derived.Test.YtaafofmfbcnaaaaGreatOpenG
import Derived.Test.YtaafofmfbcnaaaaGreatN7
namespace Go.Proofs.YtaafofmfbcnaaaaGreat
open Go.ChangeShapes Go.WideShapes Go.ChangeAt Go.RowKit
set_option linter.unusedVariables false
set_option linter.unusedSimpArgs false
set_option maxRecDepth 100000 in
theorem scopeReasons_lifted (os:Os) (started:os.Started) (H:Type) (enc:TypeId×Value→H):
 ReturnsInHanded {} Tryz.checked os 8 .any (Rows.scopeReasonsSpec.pre6 enc Tryz.prog Tryz.f8 Rows.scopeReasonsRow.domain false) (Rows.scopeReasonsSpec.post enc Tryz.prog Tryz.f8 false true false false):=by
 refine returnsInHanded_of_change (C:=Tryz.checked) Tryz.own started (by kernel_rfl) Tryz.func8
  (ChangeSpec.witness6 (enc:=enc) (C:=Tryz.checked) false ⟨#[],#[.agg #[.int .i64 0,.bool false,.slice none 0 0,.slice none 0 0]],[]⟩ 8 (by kernel_rfl) (by kernel_rfl) (by kernel_rfl) (by kernel_rfl)) ?_
 intro W base args ds gs before hval0 hW _ _
 have hval:∀(j:Nat) t v,Tryz.f8.params[j]? =some t→args[j]? =some v→Value.okWide Tryz.prog W .any base t v:=hval0
 have hW':=hW
 obtain ⟨p,q,hA0,hV,rfl,hfz,hnd⟩:=hW
 have hA:DataW.TrodAll enc Tryz.prog W 0 (fun _=>true) true Tryz.f8.params.toList args.toList ds p:=hA0
 rw[Tryz.params8] at hA hval
 obtain ⟨v0,d0,rfl,rfl,h0⟩:=trodAll_one hA
 obtain ⟨F0,rfl,hF0,hK0,hD0⟩:=open_funcD h0 (hval 0 25 v0 rfl rfl)
 refine (reasonsL22 F0 W hF0 hK0 hD0).mono fun e W' ⟨he,hb⟩=>⟨_,he,law_post Tryz.laidOut rfl hW' ?_ rfl hb rfl Tryz.boolRow⟩
 intro T hT
 rw[Tryz.params8] at hT
 simp only[List.mem_cons,List.not_mem_nil,or_false] at hT
 subst hT
 exact ⟨by kernel_rfl,of_decide_eq_true (by kernel_rfl)⟩
theorem scopeReasons_holds:Rows.ScopeReasonsSaid:=
 OpenClaim.holds_of_wide 8 Tryz.f8 rfl rfl rfl rfl rfl rfl rfl ⟨rfl,rfl,rfl,rfl,rfl⟩ rfl rfl rfl rfl rfl (by kernel_rfl) Tryz.func8 (by kernel_rfl)
  (of_decide_eq_true (by kernel_rfl)) (by unfold Func.isWrapper;rw[if_neg (by decide+kernel)];exact ⟨rfl,rfl⟩)
  (fun os started H enc _=>scopeReasons_lifted os started H enc)
end Go.Proofs.YtaafofmfbcnaaaaGreat
