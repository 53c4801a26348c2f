/- GraphMore: a statement more, in front of a block, moves the numbers behind it by one and changes nothing else of which points are reached. No condition. -/
import Derived.Test.YtemnfncbgalljabGrU
import Derived.Test.YtemnfncbgalljabN7
namespace Go.Proofs.Ytemnfncbgalljab
open Go.ChangeShapes Go.WideShapes Go.ChangeAt Go.RowKit
set_option linter.all false
set_option maxRecDepth 100000
theorem graphMore_lifted (os:Os) (started:os.Started) (H:Type) (enc:TypeId×Value->H):
 ReturnsInHanded {} Try.checked os 3 .any (Rows.graphMoreSpec.pre6 enc Try.prog Try.f3 Rows.graphMoreRow.domain false) (Rows.graphMoreSpec.post enc Try.prog Try.f3 false true false false):=by
 refine returnsInHanded_of_change (C:=Try.checked) Try.own started (by kernel_rfl) Try.func3
  (ChangeSpec.witness6 (enc:=enc) (C:=Try.checked) false ⟨#[],#[.agg #[.int .i64 0,.bool false,.slice none 0 0,.slice none 0 0],.int .i64 0],[]⟩ 8 (by kernel_rfl) (by kernel_rfl) (by kernel_rfl) (by kernel_rfl)) ?_
 intro W base args ds gs before hval0 hW _ _
 have hval:∀(j:Nat) t v,Try.f3.params[j]? =some t->args[j]? =some v->Value.okWide Try.prog W .any base t v:=hval0
 have hW':=hW
 obtain ⟨p,q,hA0,hV,rfl,hfz,hnd⟩:=hW
 have hA:DataW.TrodAll enc Try.prog W 0 (fun _=>true) true Try.f3.params.toList args.toList ds p:=hA0
 rw[Try.params3] at hA hval
 obtain ⟨v0,v1,d0,d1,p0,p1,rfl,rfl,rfl,h0,h1⟩:=trodAll_two hA
 obtain ⟨F0,rfl,hF0,hK0⟩:=Qepa h0 (hval 0 25 v0 rfl rfl)
 obtain ⟨n1,rfl,b11,b12⟩:=Qgpa h1 (hval 1 3 v1 rfl rfl)
 refine (Qkpa F0 W hF0 hK0 n1).mono fun e W' ⟨he,hb⟩=>⟨_,he,Q20 Try.laidOut rfl hW' ?_ rfl hb rfl Try.boolRow⟩
 intro T hT
 rw[Try.params3] at hT
 simp only[List.mem_cons,List.not_mem_nil,or_false] at hT
 rcases hT with rfl|rfl
 all_goals exact ⟨by kernel_rfl,of_decide_eq_true (by kernel_rfl)⟩
theorem graphMore_holds:Rows.GraphMoreSaid:=
 OpenClaim.holds_of_wide 3 Try.f3 rfl rfl rfl rfl rfl rfl rfl ⟨rfl,rfl,rfl,rfl,rfl⟩ rfl rfl rfl rfl rfl (by kernel_rfl) Try.func3 (by kernel_rfl)
  (of_decide_eq_true (by kernel_rfl)) (by unfold Func.isWrapper;rw[if_neg (by decide+kernel)];exact ⟨rfl,rfl⟩)
  (fun os started H enc _=>graphMore_lifted os started H enc)
end Go.Proofs.Ytemnfncbgalljab
