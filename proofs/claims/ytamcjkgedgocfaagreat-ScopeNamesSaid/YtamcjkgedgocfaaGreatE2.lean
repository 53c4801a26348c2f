/- Texts joined: LoC ScVb. No condition. -/
import Derived.Test.YtamcjkgedgocfaaGreatC4
import Derived.Test.YtamcjkgedgocfaaGreatE4
import Derived.Test.YtamcjkgedgocfaaGreatW4
import Derived.Test.YtamcjkgedgocfaaGreatC3
import Derived.Test.YtamcjkgedgocfaaGreatSolveX
namespace Go.Proofs.YtamcjkgedgocfaaGreat
open Go.RowKit
set_option linter.all false
section
end
section
set_option maxRecDepth 100000
theorem Qny (F:GFun) (w:World) (hF:F.At w) (hz:fchkV F≠0):
 Calls Tryz.prog 82 #[F.val] w (Ret w (.tuple #[.agg #[.slice none 0 0,.slice none 0 0,.slice none 0 0,.slice none 0 0,.slice none 0 0],.int .i64 (fchkV F)])):=by
 have h1 (wc:World) (hk:KB ⟨w,[]⟩ wc):=Q8u F wc (hF.later hk) hz
 generalize fchkV F=z at h1 hz⊢
 have hq:decide (z=0)=false:=decide_eq_false hz
 clear hz
 obtain ⟨pa,un,lA,ln,lc,lk,lt,bA,bn,bc,sA,sn,sc,s,jA,jn,jc,ja,jk,jo,jf,jx,je,jd⟩:=F
 obtain ⟨hX,hl,hb,hs,hj⟩:=hF
 simp only at hl hb hs hj
 refine Qaa (args:=[.pt (.agg (GFun.dat _))]) (c:=(Qwa _)) Tryz.func82 rfl hX rfl rfl ?_
 obtain ⟨nd,hnd,nt,hnt,ar,har,cm,hcm,mx,hmx,mn,hmn,ar01,ar12,zpl,hzpl,zjn,hzjn,zup,hzup,zmi,hzmi,zdp,hzdp,hT⟩:=Qca
 repeat' (first
  | refine go1 ?_|refine Qpb ?_|refine Q7b ?_|refine go3 (fun hlt=>?_) (fun hge=>?_)|refine go2 (fun h=>?_) (fun h=>?_)|exact go0|refine god ?_|refine gof ?_|refine gob ?_|(with_reducible refine Qha ?_ ?_)
  | ((with_reducible apply Qfa (f:=90) (hf:=Tryz.call90));(·(cbv;try rfl));(·intro wc hbc hxc;exact h1 wc hbc))
  | ((with_reducible apply Qta (f:=90) (hf:=Tryz.call90));(·(cbv;try rfl));(·intro wc hbc hxc;exact h1 wc hbc))
  | fail)
 all_goals first
  | rfl
  | trace_state
theorem Qc0 (F:GFun) (w:World) (hF:F.At w) (hz:fchkV F≠0):
 Calls Tryz.prog 28 #[F.val] w (Ret w (.tuple #[.slice none 0 0,.int .i64 (fchkV F)])):=by
 have h1 (wc:World) (hk:KB ⟨w,[]⟩ wc):=Qny F wc (hF.later hk) hz
 generalize fchkV F=z at h1 hz⊢
 have hq:decide (z=0)=false:=decide_eq_false hz
 clear hz
 obtain ⟨pa,un,lA,ln,lc,lk,lt,bA,bn,bc,sA,sn,sc,s,jA,jn,jc,ja,jk,jo,jf,jx,je,jd⟩:=F
 obtain ⟨hX,hl,hb,hs,hj⟩:=hF
 simp only at hl hb hs hj
 refine Qaa (args:=[.pt (.agg (GFun.dat _))]) (c:=(Qwa _)) Tryz.func28 rfl hX rfl rfl ?_
 obtain ⟨nd,hnd,nt,hnt,ar,har,cm,hcm,mx,hmx,mn,hmn,ar01,ar12,zpl,hzpl,zjn,hzjn,zup,hzup,zmi,hzmi,zdp,hzdp,hT⟩:=Qca
 repeat' (first
  | refine go1 ?_|refine Qpb ?_|refine Q7b ?_|refine go3 (fun hlt=>?_) (fun hge=>?_)|refine go2 (fun h=>?_) (fun h=>?_)|exact go0|refine god ?_|refine gof ?_|refine gob ?_|(with_reducible refine Qha ?_ ?_)
  | ((with_reducible apply Qfa (f:=82) (hf:=Tryz.call82));(·(cbv;try rfl));(·intro wc hbc hxc;exact h1 wc hbc))
  | ((with_reducible apply Qta (f:=82) (hf:=Tryz.call82));(·(cbv;try rfl));(·intro wc hbc hxc;exact h1 wc hbc))
  | fail)
 all_goals first
  | rfl
  | trace_state
theorem Q0z (F:GFun) (w:World) (hF:F.At w) (hz:fchkV F≠0):
 Calls Tryz.prog 30 #[F.val] w (Ret w (.tuple #[.slice none 0 0,.int .i64 (fchkV F)])):=by
 have h1 (wc:World) (hk:KB ⟨w,[]⟩ wc):=Qny F wc (hF.later hk) hz
 generalize fchkV F=z at h1 hz⊢
 have hq:decide (z=0)=false:=decide_eq_false hz
 clear hz
 obtain ⟨pa,un,lA,ln,lc,lk,lt,bA,bn,bc,sA,sn,sc,s,jA,jn,jc,ja,jk,jo,jf,jx,je,jd⟩:=F
 obtain ⟨hX,hl,hb,hs,hj⟩:=hF
 simp only at hl hb hs hj
 refine Qaa (args:=[.pt (.agg (GFun.dat _))]) (c:=(Qwa _)) Tryz.func30 rfl hX rfl rfl ?_
 obtain ⟨nd,hnd,nt,hnt,ar,har,cm,hcm,mx,hmx,mn,hmn,ar01,ar12,zpl,hzpl,zjn,hzjn,zup,hzup,zmi,hzmi,zdp,hzdp,hT⟩:=Qca
 repeat' (first
  | refine go1 ?_|refine Qpb ?_|refine Q7b ?_|refine go3 (fun hlt=>?_) (fun hge=>?_)|refine go2 (fun h=>?_) (fun h=>?_)|exact go0|refine god ?_|refine gof ?_|refine gob ?_|(with_reducible refine Qha ?_ ?_)
  | ((with_reducible apply Qfa (f:=82) (hf:=Tryz.call82));(·(cbv;try rfl));(·intro wc hbc hxc;exact h1 wc hbc))
  | ((with_reducible apply Qta (f:=82) (hf:=Tryz.call82));(·(cbv;try rfl));(·intro wc hbc hxc;exact h1 wc hbc))
  | fail)
 all_goals first
  | rfl
  | trace_state
end
end Go.Proofs.YtamcjkgedgocfaaGreat
