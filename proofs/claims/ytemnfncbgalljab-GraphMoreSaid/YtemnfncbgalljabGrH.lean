/- Lemmas. No condition. -/
import Derived.Test.YtemnfncbgalljabG2
namespace Go.Proofs.Ytemnfncbgalljab
open Go.RowKit
set_option linter.all false
set_option maxHeartbeats 64000000
set_option maxRecDepth 100000
theorem great7C (F:GFun) (w:World) (hF:F.At w):
 Calls Try.prog 5 #[F.val] w (Ret w (.bool (gfB F))):=by
 obtain ⟨z0,hz0⟩:=x9 (gfB F)
 rw[<-hz0]
 unfold gfB at hz0
 obtain ⟨_,_,_,_,_,_,_,_,bn,_,_,sn,_,_,_,jn,_,_,_,_,_,_,_,_⟩:=F
 obtain ⟨hX,hl,hb,hs,hj⟩:=hF
 simp only at hl hb hs hj
 simp only at hz0
 obtain ⟨ga,hga⟩:=x9 (Qed bn fun b=>decide (sn b<=30)&&decide (jn b<=12))
 rw[<-hga] at hz0
 have h1:∀b,b<bn->decide (sn b<=30)=false\/decide (jn b<=12)=false->ga=false:=fun b hb h=>hga.trans (Qfb hb (by rcases h with h|h<;>rw[h]<;>simp))
 have h2:(∀b,b<bn->decide (sn b<=30)=true/\decide (jn b<=12)=true)->ga=true:=fun h=>hga.trans (Qla.2 fun b hb=>by rw[(h b hb).1,(h b hb).2];rfl)
 clear hga
 refine Qaa (args:=[.pt (.agg (GFun.dat _))]) (c:=(Qwa _)) Try.func5 rfl hX rfl rfl ?_
 obtain ⟨_,_,_,hnt,_,har,_,hcm,_,_,_,_,ar01,ar12,_,hzpl,_,_,_,_,_,_,_,_,hT⟩:=Qca
 repeat' (first
  | refine goa ?_|refine go3 (fun hlt=>?_) (fun hge=>?_)|refine go2 (fun h=>?_) (fun h=>?_)|exact go0|refine goz ?_|refine Qvha ?_ ?_
  | refine Qhha Try.func21 Try.results21 Try.call21 ?_
  | ((with_reducible refine Qgha (σ:={b:Nat // b<=bn/\∀j,j<b->decide (sn j<=30)=true/\decide (jn j<=12)=true}) (zs9 [2,1,14,24]) (fun x=>[zc9 3 x.1]) (fun x=>[]) (fun x=>[]) (fun x=>bn - x.1) ⟨0,by omega,fun j hj=>by omega⟩ ?_ ?_);(·exact pfp Qdb);(rintro ⟨b,hb1,hok⟩ mm hmm))
  | ((with_reducible refine Qfha ⟨b+1,by omega,Q3b hok (show decide (sn b<=30)=true/\decide (jn b<=12)=true from ⟨Qw7 hcm y9,Qw7 hcm y9⟩)⟩ ?_ ?_);(·exact msr o9 y9);(·exact pfp Qdb))
  | fail)
 all_goals (refine Qtb ?_)
 all_goals
  try have e1:=h1 b y9 (.inl (Qx7 hcm y9))
  try have e2:=h1 b y9 (.inr (Qx7 hcm y9))
  try have e3:=h2 (fun j hj=>hok j o9)
  try clear hmm hok
  clear hX hT h1 h2
  subst hcm
  simp only[rCm] at *
  subst_vars
  simp only[decide_eq_true_eq,decide_eq_false_iff_not,Int.ofNat_eq_natCast] at *
  grind
end Go.Proofs.Ytemnfncbgalljab
