/- Layer 22: what the law's examples call. No condition. -/
import Derived.Test.YtamcjkgedgocfaaGreatScF
import Derived.Test.YtamcjkgedgocfaaGreatE2
namespace Go.Proofs.YtamcjkgedgocfaaGreat
open Go.RowKit
set_option linter.all false
set_option maxRecDepth 100000 in
theorem Q2ba (k l f:Int) (d:Bool) (w:World):Calls Tryz.prog 38 #[.int .u8 k,.agg #[.int .i64 l,.bool d,.int .u8 f]] w (Ret w (GRv.val ⟨1,0,0,⟨k,0,⟨l,d,f⟩⟩,.zero,.zero⟩)):=by
 refine Qaa (args:=[.pt (.one (.int .u8 k)),.pt (.agg [.int .i64 l,.bool d,.int .u8 f])]) (c:=Qra) Tryz.func38 rfl (Qga _) rfl rfl ?_
 obtain ⟨nd,hnd,nt,hnt,ar,har,cm,hcm,mx,hmx,mn,hmn,ar01,ar12,zpl,hzpl,zjn,hzjn,zup,hzup,zmi,hzmi,zdp,hzdp,hT⟩:=Qca
 repeat' (first
  | refine go1 ?_|refine Qpb ?_|refine Q7b ?_|refine go3 (fun hlt=>?_) (fun hge=>?_)|refine go2 (fun h=>?_) (fun h=>?_)|exact go0|refine god ?_|refine gof ?_|refine gob ?_|(with_reducible refine Qha ?_ ?_)
  | fail)
 all_goals rfl
end Go.Proofs.YtamcjkgedgocfaaGreat
