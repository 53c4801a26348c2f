/- Lemmas. No condition. -/
import Derived.Test.YtemnfncbgalljaaGreatClO
namespace Go.Proofs.YtemnfncbgalljaaGreat
open Go.RowKit
set_option linter.all false
set_option maxRecDepth 100000
set_option maxHeartbeats 64000000
theorem Qqfa (F:GFun) (w:World) (hF:F.At w) (hz:fchkV F≠0):
 Calls Tryz.prog 20 #[F.val] w (Ret w (.tuple #[.slice none 0 0,.int .i64 (fchkV F)])):=by
 have h1 wc (hk:KB ⟨w,[]⟩ wc):=Q6ea F wc (hF.later hk) hz
 generalize fchkV F=z at h1 hz⊢
 have hq:decide (z=0)=false:=decide_eq_false hz
 clear hz
 cases F
 obtain ⟨hX,hl,hb,hs,hj⟩:=hF
 simp only at hl hb hs hj
 refine Qaa (args:=[.pt (.agg (GFun.dat _))]) (c:=(Qwa _)) Tryz.func20 rfl hX rfl rfl ?_
 obtain ⟨_,_,_,hnt,_,har,_,hcm,_,_,_,_,ar01,ar12,_,hzpl,_,_,_,_,_,_,_,_,hT⟩:=Qca
 repeat' (first
  | refine goa ?_|refine go3 (fun hlt=>?_) (fun hge=>?_)|refine go2 (fun h=>?_) (fun h=>?_)|exact go0|refine goz ?_|refine Qvha ?_ ?_
  | (refine' Qiha Tryz.call52 ?_ ?_;rotate_left;(·intro wc hbc hxc;exact h1 wc hbc))
  | fail)
 all_goals rfl
end Go.Proofs.YtemnfncbgalljaaGreat
