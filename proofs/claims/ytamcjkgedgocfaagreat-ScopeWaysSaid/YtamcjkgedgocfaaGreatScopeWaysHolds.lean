/- ScopeWays: loans are in scope by ways through the region. No condition. -/
import Derived.Test.YtamcjkgedgocfaaGreatScY
import Derived.Test.YtamcjkgedgocfaaGreatO1
namespace Go.Proofs.YtamcjkgedgocfaaGreat
open Go.ChangeShapes Go.WideShapes Go.ChangeAt Go.RowKit
set_option linter.unusedVariables false
set_option linter.unusedSimpArgs false
set_option maxRecDepth 100000 in
theorem scopeWays_lifted (os:Os) (started:os.Started) (H:Type) (enc:TypeId×Value→H):
 ReturnsInHanded {} Tryz.checked os 6 .any (Rows.scopeWaysSpec.pre6 enc Tryz.prog Tryz.f6 Rows.scopeWaysRow.domain false) (Rows.scopeWaysSpec.post enc Tryz.prog Tryz.f6 false true false false):=by
 refine returnsInHanded_of_change (C:=Tryz.checked) Tryz.own started (by kernel_rfl) Tryz.func6
  (ChangeSpec.witness6 (enc:=enc) (C:=Tryz.checked) false ⟨#[],#[.agg #[.int .i64 0,.bool false,.slice none 0 0,.slice none 0 0],.slice none 0 0],[]⟩ 8 (by kernel_rfl) (by kernel_rfl) (by kernel_rfl) (by kernel_rfl)) ?_
 intro W base args ds gs before hval0 hW _ _
 have hval:∀(j:Nat) t v,Tryz.f6.params[j]? =some t→args[j]? =some v→Value.okWide Tryz.prog W .any base t v:=hval0
 have hW':=hW
 obtain ⟨p,q,hA0,hV,rfl,hfz,hnd⟩:=hW
 have hA:DataW.TrodAll enc Tryz.prog W 0 (fun _=>true) true Tryz.f6.params.toList args.toList ds p:=hA0
 rw[Tryz.params6] at hA hval
 obtain ⟨v0,v1,d0,d1,p0,p1,rfl,rfl,rfl,h0,h1⟩:=trodAll_two hA
 obtain ⟨F0,rfl,hF0,hK0,hD0⟩:=open_funcD h0 (hval 0 25 v0 rfl rfl)
 obtain ⟨A1,m1,c1,G1,rfl,b11,t1⟩:=open_ints h1 (hval 1 80 v1 rfl rfl)
 refine (scWaysL F0 W hF0 hK0 hD0 A1 m1 c1 G1 b11 t1).mono fun e W' ⟨he,hb⟩=>⟨_,he,law_post Tryz.laidOut rfl hW' ?_ rfl hb rfl Tryz.boolRow⟩
 intro T hT
 rw[Tryz.params6] at hT
 simp only[List.mem_cons,List.not_mem_nil,or_false] at hT
 rcases hT with rfl|rfl
 all_goals exact ⟨by kernel_rfl,of_decide_eq_true (by kernel_rfl)⟩
theorem scopeWays_holds:Rows.ScopeWaysSaid:=
 OpenClaim.holds_of_wide 6 Tryz.f6 rfl rfl rfl rfl rfl rfl rfl ⟨rfl,rfl,rfl,rfl,rfl⟩ rfl rfl rfl rfl rfl (by kernel_rfl) Tryz.func6 (by kernel_rfl)
  (of_decide_eq_true (by kernel_rfl)) (by unfold Func.isWrapper;rw[if_neg (by decide+kernel)];exact ⟨rfl,rfl⟩)
  (fun os started H enc _=>scopeWays_lifted os started H enc)
end Go.Proofs.YtamcjkgedgocfaaGreat
