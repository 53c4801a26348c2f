/- ClashNames: two-phase loans, kills, calls, and errors. No condition. -/
import Derived.Test.YtemnfncbgalljaaGreatClYg
import Derived.Test.YtemnfncbgalljaaGreatN7
namespace Go.Proofs.YtemnfncbgalljaaGreat
open Go.ChangeShapes Go.WideShapes Go.ChangeAt Go.RowKit
set_option linter.all false
set_option maxHeartbeats 64000000
set_option maxRecDepth 100000
theorem clashNames_lifted (os:Os) (started:os.Started) (H:Type) (enc:TypeId×Value->H):
 ReturnsInHanded {} Tryz.checked os 11 .any (Rows.clashNamesSpec.pre6 enc Tryz.prog Tryz.f11 Rows.clashNamesRow.domain false) (Rows.clashNamesSpec.post enc Tryz.prog Tryz.f11 false true false false):=by
 refine returnsInHanded_of_change (C:=Tryz.checked) Tryz.own started (by kernel_rfl) Tryz.func11
  (ChangeSpec.witness6 (enc:=enc) (C:=Tryz.checked) false ⟨#[],#[],[]⟩ 8 (by kernel_rfl) (by kernel_rfl) (by kernel_rfl) (by kernel_rfl)) ?_
 intro W base args ds gs before hval0 hW _ _
 have hval:∀(j:Nat) t v,Tryz.f11.params[j]? =some t->args[j]? =some v->Value.okWide Tryz.prog W .any base t v:=hval0
 have hW':=hW
 obtain ⟨p,q,hA0,hV,rfl,hfz,hnd⟩:=hW
 have hA:DataW.TrodAll enc Tryz.prog W 0 (fun _=>true) true Tryz.f11.params.toList args.toList ds p:=hA0
 rw[Tryz.params11] at hA hval
 obtain ⟨rfl,rfl,rfl⟩:=trodAll_none hA
 refine (Qwia W).mono fun e W' ⟨he,hb⟩=>⟨_,he,Q20 Tryz.laidOut rfl hW' ?_ rfl hb rfl Tryz.boolRow⟩
 intro T hT
 rw[Tryz.params11] at hT
 simp at hT
theorem Qnia:joinedFacts Tryz.pinned.checked.prog 11 Tryz.f11 Rows.clashNamesSpec Rows.clashNamesRow=true:=by
 unfold joinedFacts
 repeat' (with_reducible refine Bool.and_eq_true_iff.2 ⟨?_,?_⟩)
 all_goals (as_aux_lemma=>kernel_rfl)
theorem clashNames_holds:Rows.ClashNamesSaid:=
 OpenClaim.holds_of_wide 11 Tryz.f11 rfl rfl rfl rfl rfl rfl rfl ⟨rfl,rfl,rfl,rfl,rfl⟩ rfl rfl rfl rfl rfl (by kernel_rfl) Tryz.func11 Qnia
  (of_decide_eq_true (by kernel_rfl)) (by unfold Func.isWrapper;rw[if_neg (by decide+kernel)];exact ⟨rfl,rfl⟩)
  (fun os started H enc _=>clashNames_lifted os started H enc)
end Go.Proofs.YtemnfncbgalljaaGreat
