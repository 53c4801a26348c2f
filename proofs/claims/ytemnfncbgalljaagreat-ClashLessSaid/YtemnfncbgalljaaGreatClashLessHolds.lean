/- ClashLess: a function without loans has no conflicts, and conflicts are where the loan is in scope. No condition. -/
import Derived.Test.YtemnfncbgalljaaGreatClLa
namespace Go.Proofs.YtemnfncbgalljaaGreat
open Go.ChangeShapes Go.WideShapes Go.ChangeAt Go.RowKit
set_option linter.all false
set_option maxHeartbeats 64000000
set_option maxRecDepth 100000
theorem clashLess_lifted (os:Os) (started:os.Started) (H:Type) (enc:TypeId×Value->H):
 ReturnsInHanded {} Tryz.checked os 13 .any (Rows.clashLessSpec.pre6 enc Tryz.prog Tryz.f13 Rows.clashLessRow.domain false) (Rows.clashLessSpec.post enc Tryz.prog Tryz.f13 false true false false):=by
 refine returnsInHanded_of_change (C:=Tryz.checked) Tryz.own started (by kernel_rfl) Tryz.func13
  (ChangeSpec.witness6 (enc:=enc) (C:=Tryz.checked) false ⟨#[],#[.agg #[.int .i64 0,.bool false,.slice none 0 0,.slice none 0 0]],[]⟩ 8 (by kernel_rfl) (by kernel_rfl) (by kernel_rfl) (by kernel_rfl)) ?_
 intro W base args ds gs before hval0 hW _ _
 have hval:∀(j:Nat) t v,Tryz.f13.params[j]? =some t->args[j]? =some v->Value.okWide Tryz.prog W .any base t v:=hval0
 have hW':=hW
 obtain ⟨p,q,hA0,hV,rfl,hfz,hnd⟩:=hW
 have hA:DataW.TrodAll enc Tryz.prog W 0 (fun _=>true) true Tryz.f13.params.toList args.toList ds p:=hA0
 rw[Tryz.params13] at hA hval
 obtain ⟨v0,d0,rfl,rfl,h0⟩:=trodAll_one hA
 obtain ⟨F0,rfl,hF0,hK0,hD0⟩:=Q7ea h0 (hval 0 44 v0 rfl rfl)
 refine (Qmja F0 W hF0 hK0 hD0).mono fun e W' ⟨he,hb⟩=>⟨_,he,Q20 Tryz.laidOut rfl hW' ?_ rfl hb rfl Tryz.boolRow⟩
 intro T hT
 rw[Tryz.params13] at hT
 simp only[List.mem_cons,List.not_mem_nil,or_false] at hT
 subst hT
 exact ⟨by kernel_rfl,of_decide_eq_true (by kernel_rfl)⟩
theorem Q7ia:joinedFacts Tryz.pinned.checked.prog 13 Tryz.f13 Rows.clashLessSpec Rows.clashLessRow=true:=by
 unfold joinedFacts
 repeat' (with_reducible refine Bool.and_eq_true_iff.2 ⟨?_,?_⟩)
 all_goals (as_aux_lemma=>kernel_rfl)
theorem clashLess_holds:Rows.ClashLessSaid:=
 OpenClaim.holds_of_wide 13 Tryz.f13 rfl rfl rfl rfl rfl rfl rfl ⟨rfl,rfl,rfl,rfl,rfl⟩ rfl rfl rfl rfl rfl (by kernel_rfl) Tryz.func13 Q7ia
  (of_decide_eq_true (by kernel_rfl)) (by unfold Func.isWrapper;rw[if_neg (by decide+kernel)];exact ⟨rfl,rfl⟩)
  (fun os started H enc _=>clashLess_lifted os started H enc)
end Go.Proofs.YtemnfncbgalljaaGreat
