/- ScopeLive: as long as the local to which a loan was assigned is live, the loan is in scope. No condition. -/
import Derived.Test.YtaafofmfbcnaaaaGreatC5
import Derived.Test.YtaafofmfbcnaaaaGreatOpenG
import Derived.Test.YtaafofmfbcnaaaaGreatOpenI
namespace Go.Proofs.YtaafofmfbcnaaaaGreat
open Go.ChangeShapes Go.WideShapes Go.ChangeAt Go.RowKit
set_option linter.unusedVariables false
set_option linter.unusedSimpArgs false
set_option maxRecDepth 100000 in
theorem scopeLive_lifted (os:Os) (started:os.Started) (H:Type) (enc:TypeId×Value→H):
 ReturnsInHanded {} Tryz.checked os 9 .any (Rows.scopeLiveSpec.pre6 enc Tryz.prog Tryz.f9 Rows.scopeLiveRow.domain false) (Rows.scopeLiveSpec.post enc Tryz.prog Tryz.f9 false true false false):=by
 refine returnsInHanded_of_change (C:=Tryz.checked) Tryz.own started (by kernel_rfl) Tryz.func9
  (ChangeSpec.witness6 (enc:=enc) (C:=Tryz.checked) false ⟨#[],#[.agg #[.int .i64 0,.bool false,.slice none 0 0,.slice none 0 0],.int .i64 0,.slice none 0 0],[]⟩ 8 (by kernel_rfl) (by kernel_rfl) (by kernel_rfl) (by kernel_rfl)) ?_
 intro W base args ds gs before hval0 hW _ _
 have hval:∀(j:Nat) t v,Tryz.f9.params[j]? =some t→args[j]? =some v→Value.okWide Tryz.prog W .any base t v:=hval0
 have hW':=hW
 obtain ⟨p,q,hA0,hV,rfl,hfz,hnd⟩:=hW
 have hA:DataW.TrodAll enc Tryz.prog W 0 (fun _=>true) true Tryz.f9.params.toList args.toList ds p:=hA0
 rw[Tryz.params9] at hA hval
 obtain ⟨v0,v1,v2,d0,d1,d2,p0,p1,p2,rfl,rfl,rfl,h0,h1,h2⟩:=trodAll_three hA
 obtain ⟨F0,rfl,hF0,hK0,hD0⟩:=open_funcD h0 (hval 0 25 v0 rfl rfl)
 obtain ⟨n1,rfl,b11,b12⟩:=open_num h1 (hval 1 3 v1 rfl rfl)
 obtain ⟨A2,m2,c2,G2,rfl,b21,t2⟩:=open_ints h2 (hval 2 87 v2 rfl rfl)
 refine (scLiveL F0 W hF0 hK0 hD0 n1 A2 m2 c2 G2 b21 t2).mono fun e W' ⟨he,hb⟩=>⟨_,he,law_post Tryz.laidOut rfl hW' ?_ rfl hb rfl Tryz.boolRow⟩
 intro T hT
 rw[Tryz.params9] at hT
 simp only[List.mem_cons,List.not_mem_nil,or_false] at hT
 rcases hT with rfl|rfl|rfl
 all_goals exact ⟨by kernel_rfl,of_decide_eq_true (by kernel_rfl)⟩
theorem scopeLive_holds:Rows.ScopeLiveSaid:=
 OpenClaim.holds_of_wide 9 Tryz.f9 rfl rfl rfl rfl rfl rfl rfl ⟨rfl,rfl,rfl,rfl,rfl⟩ rfl rfl rfl rfl rfl (by kernel_rfl) Tryz.func9 (by kernel_rfl)
  (of_decide_eq_true (by kernel_rfl)) (by unfold Func.isWrapper;rw[if_neg (by decide+kernel)];exact ⟨rfl,rfl⟩)
  (fun os started H enc _=>scopeLive_lifted os started H enc)
end Go.Proofs.YtaafofmfbcnaaaaGreat
