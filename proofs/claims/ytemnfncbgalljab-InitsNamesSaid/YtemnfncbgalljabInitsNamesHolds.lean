/- InitsNames: moves, halves, calls and branches. No condition. -/
import Derived.Test.YtemnfncbgalljabFlG
import Derived.Test.YtemnfncbgalljabN7
namespace Go.Proofs.Ytemnfncbgalljab
open Go.ChangeShapes Go.WideShapes Go.ChangeAt Go.RowKit
set_option linter.all false
set_option maxRecDepth 100000
theorem initsNames_lifted (os:Os) (started:os.Started) (H:Type) (enc:TypeId×Value->H):
 ReturnsInHanded {} Try.checked os 4 .any (Rows.initsNamesSpec.pre6 enc Try.prog Try.f4 Rows.initsNamesRow.domain false) (Rows.initsNamesSpec.post enc Try.prog Try.f4 false true false false):=by
 refine returnsInHanded_of_change (C:=Try.checked) Try.own started (by kernel_rfl) Try.func4
  (ChangeSpec.witness6 (enc:=enc) (C:=Try.checked) false ⟨#[],#[],[]⟩ 8 (by kernel_rfl) (by kernel_rfl) (by kernel_rfl) (by kernel_rfl)) ?_
 intro W base args ds gs before hval0 hW _ _
 have hval:∀(j:Nat) t v,Try.f4.params[j]? =some t->args[j]? =some v->Value.okWide Try.prog W .any base t v:=hval0
 have hW':=hW
 obtain ⟨p,q,hA0,hV,rfl,hfz,hnd⟩:=hW
 have hA:DataW.TrodAll enc Try.prog W 0 (fun _=>true) true Try.f4.params.toList args.toList ds p:=hA0
 rw[Try.params4] at hA hval
 obtain ⟨rfl,rfl,rfl⟩:=trodAll_none hA
 refine (Qjoa W).mono fun e W' ⟨he,hb⟩=>⟨_,he,Q20 Try.laidOut rfl hW' ?_ rfl hb rfl Try.boolRow⟩
 intro T hT
 rw[Try.params4] at hT
 simp at hT
theorem initsNames_holds:Rows.InitsNamesSaid:=
 OpenClaim.holds_of_wide 4 Try.f4 rfl rfl rfl rfl rfl rfl rfl ⟨rfl,rfl,rfl,rfl,rfl⟩ rfl rfl rfl rfl rfl (by kernel_rfl) Try.func4 (by kernel_rfl)
  (of_decide_eq_true (by kernel_rfl)) (by unfold Func.isWrapper;rw[if_neg (by decide+kernel)];exact ⟨rfl,rfl⟩)
  (fun os started H enc _=>initsNames_lifted os started H enc)
end Go.Proofs.Ytemnfncbgalljab
