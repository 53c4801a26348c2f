/- Lemmas. No condition. -/
import Derived.Test.YtemnfncbgalljaaGreatClY
namespace Go.Proofs.YtemnfncbgalljaaGreat
open Go.RowKit
set_option linter.all false
set_option maxRecDepth 100000
set_option maxHeartbeats 64000000
theorem Qzja (w:World) (a1:Option Addr):(Quja w).q5 a1:=by
 delta Quja
 with_reducible refine (?_:Goes _ _ _ _ _ _)
 obtain ⟨_,hnd,_,hnt,_,har,_,hcm,_,hmx,_,hmn,ar01,ar12,_,hzpl,_,hzjn,_,hzup,_,hzmi,_,hzdp,hT⟩:=Qca
 subst hnd hnt har hcm hmx hmn hzpl hzjn hzup hzmi hzdp
 repeat' (first
  | (refine gov ?_;(try simp only[ar01,ar12]))
  | (((with_reducible apply go_takeC 0 hT (g:=39) (hfun:=Tryz.call39));(·rfl);(·kernel_rfl);(·rfl);(·rfl);(·(intro h_;cases h_));(·kernel_rfl);(·kernel_rfl);(·kernel_rfl);(·(cbv;try rfl));(·(cbv;try rfl));(·(cbv;try rfl));(·intro wc;exact Q1ha _ wc)))
  | (((with_reducible apply go_takeC 0 hT (g:=46) (hfun:=Tryz.call46));(·rfl);(·kernel_rfl);(·rfl);(·rfl);(·(intro h_;cases h_));(·kernel_rfl);(·kernel_rfl);(·kernel_rfl);(·(cbv;try rfl));(·(cbv;try rfl));(·(cbv;try rfl));(·intro wc;exact Qxha _ wc)))
  | (((with_reducible apply go_takeC 0 hT (g:=45) (hfun:=Tryz.call45));(·rfl);(·kernel_rfl);(·rfl);(·rfl);(·(intro h_;cases h_));(·kernel_rfl);(·kernel_rfl);(·kernel_rfl);(·(cbv;try rfl));(·(cbv;try rfl));(·(cbv;try rfl));(·intro wc;exact Qkia _ _ _ _ wc)))
  | (((with_reducible apply go_takeC 0 hT (g:=38) (hfun:=Tryz.call38));(·rfl);(·kernel_rfl);(·rfl);(·rfl);(·(intro h_;cases h_));(·kernel_rfl);(·kernel_rfl);(·kernel_rfl);(·(cbv;try rfl));(·(cbv;try rfl));(·(cbv;try rfl));(·intro wc;exact Qeia _ _ _ _ wc)))
  | (((with_reducible apply go_takeC 0 hT (g:=44) (hfun:=Tryz.call44));(·rfl);(·kernel_rfl);(·rfl);(·rfl);(·(intro h_;cases h_));(·kernel_rfl);(·kernel_rfl);(·kernel_rfl);(·(cbv;try rfl));(·(cbv;try rfl));(·(cbv;try rfl));(·intro wc;exact Qzha _ _ _ _ _ _ _ _ _ _ _ _ _ _ _ _ _ _ _ wc)))
  | (((with_reducible apply go_takeC 0 hT (g:=47) (hfun:=Tryz.call47));(·rfl);(·kernel_rfl);(·rfl);(·rfl);(·(intro h_;cases h_));(·kernel_rfl);(·kernel_rfl);(·kernel_rfl);(·(cbv;try rfl));(·(cbv;try rfl));(·(cbv;try rfl));(·intro wc;exact Qria _ _ _ wc)))
  | (((with_reducible apply go_takeC 0 hT (g:=40) (hfun:=Tryz.call40));(·rfl);(·kernel_rfl);(·rfl);(·rfl);(·(intro h_;cases h_));(·kernel_rfl);(·kernel_rfl);(·kernel_rfl);(·(cbv;try rfl));(·(cbv;try rfl));(·(cbv;try rfl));(·intro wc;exact Qmia _ _ _ wc)))
  | (((with_reducible apply go_takeC 0 hT (g:=41) (hfun:=Tryz.call41));(·rfl);(·kernel_rfl);(·rfl);(·rfl);(·(intro h_;cases h_));(·kernel_rfl);(·kernel_rfl);(·kernel_rfl);(·(cbv;try rfl));(·(cbv;try rfl));(·(cbv;try rfl));(·intro wc;exact Qoia _ _ _ _ wc)))
  | refine goa ?_|refine go3 (fun hlt=>?_) (fun hge=>?_)|refine go2 (fun h=>?_) (fun h=>?_)|exact go0|refine goz ?_|refine Qvha ?_ ?_
  | (refine' Qiha Tryz.call39 ?_ ?_;rotate_left;(·intro wc hbc hxc;exact Q1ha _ wc))
  | (refine' Qiha Tryz.call46 ?_ ?_;rotate_left;(·intro wc hbc hxc;exact Qxha _ wc))
  | (refine' Qiha Tryz.call45 ?_ ?_;rotate_left;(·intro wc hbc hxc;exact Qkia _ _ _ _ wc))
  | (refine' Qiha Tryz.call38 ?_ ?_;rotate_left;(·intro wc hbc hxc;exact Qeia _ _ _ _ wc))
  | (refine' Qiha Tryz.call44 ?_ ?_;rotate_left;(·intro wc hbc hxc;exact Qzha _ _ _ _ _ _ _ _ _ _ _ _ _ _ _ _ _ _ _ wc))
  | (refine' Qiha Tryz.call47 ?_ ?_;rotate_left;(·intro wc hbc hxc;exact Qria _ _ _ wc))
  | (refine' Qiha Tryz.call40 ?_ ?_;rotate_left;(·intro wc hbc hxc;exact Qmia _ _ _ wc))
  | (refine' Qiha Tryz.call41 ?_ ?_;rotate_left;(·intro wc hbc hxc;exact Qoia _ _ _ _ wc))
  | refine Qhha Tryz.func43 Tryz.results43 Tryz.call43 ?_
  | refine Qhha Tryz.func42 Tryz.results42 Tryz.call42 ?_
  | refine Qhha Tryz.func48 Tryz.results48 Tryz.call48 ?_
  | (refine' Qiha Tryz.call51 ?_ ?_;rotate_left;(·intro wc hbc hxc;exact Q7ha wc))
  | refine Qhha Tryz.func37 Tryz.results37 Tryz.call37 ?_
  | refine Qhha Tryz.func84 Tryz.results84 Tryz.call84 ?_
  | (with_reducible apply Qqa 5)
  | (refine' Qiha Tryz.call50 ?_ ?_;rotate_left;(·intro wc hbc hxc;exact Q8ha _ _ _ _ _ _ _ _ _ _ _ _ (by decide) (by decide) wc))
  | (((apply Qjia [[1,2,4,2,1,0],[1,3,4,2,1,0],[1,2,1,0,0,0],[1,3,1,0,0,0]] [⟨1,0,⟨⟨1,false,0⟩,true,true⟩⟩]);(·(intro S B;cbv;try rfl));(·(intro B;cbv));(·kernel_rfl);(·(intro B;kernel_rfl));(·(intro B;kernel_rfl));(·exact fun B hO=>(Qqia (K:=8) (M:=[3,7,13,9,1]) (r:=4) (s:=8) (T:=[[false,true,true,false,false],[false,false,true,true,false]]) (U:=[[false,false,false,false,false],[false,false,false,false,false]]) hO (by kernel_rfl)).trans (by kernel_rfl))))
  | (((apply Qjia [[1,2,4,3,1,0],[2,0,0,0,0,0],[1,3,1,0,0,2],[2,0,0,0,0,0],[1,3,1,0,0,0]] [⟨3,0,⟨⟨1,false,0⟩,false,true⟩⟩]);(·(intro S B;cbv;try rfl));(·(intro B;cbv));(·kernel_rfl);(·(intro B;kernel_rfl));(·(intro B;kernel_rfl));(·exact fun B hO=>(Qqia (K:=8) (M:=[3,7,7,11,9,1]) (r:=4) (s:=8) (T:=[[false,true,true,true,true,false]]) (U:=[[false,false,false,true,true,false]]) hO (by kernel_rfl)).trans (by kernel_rfl))))
  | (((apply Qjia [[1,4,4,1,1,0],[1,2,4,3,1,0],[1,3,1,0,0,2],[2,0,0,0,0,0],[1,3,1,0,0,0]] [⟨2,0,⟨⟨1,false,0⟩,true,true⟩⟩]);(·(intro S B;cbv;try rfl));(·(intro B;cbv));(·kernel_rfl);(·(intro B;kernel_rfl));(·(intro B;kernel_rfl));(·exact fun B hO=>(Qqia (K:=8) (M:=[3,19,21,25,9,1]) (r:=4) (s:=8) (T:=[[false,true,true,true,false,false],[false,false,true,true,true,false]]) (U:=[[false,false,false,false,false,false],[false,false,false,true,true,false]]) hO (by kernel_rfl)).trans (by kernel_rfl))))
  | (((apply Qjia [[1,2,4,2,1,0],[1,3,4,3,2,0],[1,2,4,2,0,0],[1,4,1,0,0,3]] [⟨2,1,⟨⟨2,false,0⟩,true,false⟩⟩]);(·(intro S B;cbv;try rfl));(·(intro B;cbv));(·kernel_rfl);(·(intro B;kernel_rfl));(·(intro B;kernel_rfl));(·exact fun B hO=>(Qqia (K:=8) (M:=[3,5,9,9,1]) (r:=4) (s:=8) (T:=[[false,true,true,true,false],[false,false,true,false,false],[false,false,false,true,false]]) (U:=[[false,false,false,false,false],[false,false,false,false,false],[false,false,false,false,false]]) hO (by kernel_rfl)).trans (by kernel_rfl))))
  | (((apply Qjia [[1,2,4,2,1,0],[1,3,4,2,2,0],[1,2,4,2,0,0],[1,3,1,0,0,0]] []);(·(intro S B;cbv;try rfl));(·(intro B;cbv));(·kernel_rfl);(·(intro B;kernel_rfl));(·(intro B;kernel_rfl));(·exact fun B hO=>(Qqia (K:=8) (M:=[3,5,9,9,1]) (r:=4) (s:=8) (T:=[[false,true,true,true,false],[false,false,true,false,false],[false,false,false,true,false]]) (U:=[[false,false,false,false,false],[false,false,false,false,false],[false,false,false,false,false]]) hO (by kernel_rfl)).trans (by kernel_rfl))))
  | (((apply Qjia [[1,2,4,2,1,0],[1,3,4,2,2,0],[1,4,1,0,0,2],[1,3,1,0,0,0]] [⟨2,1,⟨⟨2,false,0⟩,true,true⟩⟩]);(·(intro S B;cbv;try rfl));(·(intro B;cbv));(·kernel_rfl);(·(intro B;kernel_rfl));(·(intro B;kernel_rfl));(·exact fun B hO=>(Qqia (K:=8) (M:=[3,5,13,9,1]) (r:=4) (s:=8) (T:=[[false,true,true,true,false],[false,false,true,true,false]]) (U:=[[false,false,false,false,false],[false,false,false,false,false]]) hO (by kernel_rfl)).trans (by kernel_rfl))))
  | (((apply Qjia [[1,2,4,1,1,0],[3,0,0,0,0,0],[2,0,0,0,0,0]] [⟨1,0,⟨⟨1,false,0⟩,true,false⟩⟩]);(·(intro S B;cbv;try rfl));(·(intro B;cbv));(·kernel_rfl);(·(intro B;kernel_rfl));(·(intro B;kernel_rfl));(·exact fun B hO=>(Qqia (K:=8) (M:=[3,5,5,1]) (r:=4) (s:=8) (T:=[[false,true,true,false]]) (U:=[[false,false,false,false]]) hO (by kernel_rfl)).trans (by kernel_rfl))))
  | (((apply Qyha 0 [⟨⟨2,false,0⟩,true,true⟩,⟨⟨3,true,0⟩,false,true⟩,⟨⟨4,true,0⟩,true,false⟩] (by rfl));(·(intro S B;cbv;try rfl));(·kernel_rfl);(·(intro B;cbv));(·(intro B;cbv));(·(intro B;cbv))))
  | (((apply Qvia);(·(intro S B;cbv;try rfl));(·kernel_rfl);(·(intro B;cbv));(·(intro B;cbv))))
  | (((apply Qxia 8);(·(intro S B;cbv;try rfl));(·kernel_rfl);(·(intro B;cbv));(·decide)))
  | (((apply Qyia 8);(·(intro S B;cbv;try rfl));(·kernel_rfl);(·(intro B;cbv));(·decide)))
  | (((apply Qsia 8);(·(intro S B;cbv;try rfl));(·kernel_rfl);(·(intro B;cbv));(·(intro B;rfl))))
  | (((with_reducible refine Qtba [] () rfl ?_ ?_ ?_ ?_);(·rfl);(·(refine Q8c ?_ ?_ ?_ ?_<;>(cbv;(try simp only[true_and,and_true]);(try ((repeat' apply And.intro)<;>(first|trivial|rfl|exact RowLe.rfl' _))))));(·(cbv;try rfl));(·simp)))
  | (((with_reducible refine Qtba [(1,2),(2,3),(3,4),(4,5),(5,6)] () rfl ?_ ?_ ?_ ?_);(·rfl);(·(refine Q8c ?_ ?_ ?_ ?_<;>(cbv;(try simp only[true_and,and_true]);(try ((repeat' apply And.intro)<;>(first|trivial|rfl|exact RowLe.rfl' _))))));(·(cbv;try rfl));(·simp)))
  | (((with_reducible refine Qtba [(2,3),(3,4),(4,5),(5,6)] () rfl ?_ ?_ ?_ ?_);(·rfl);(·(refine Q8c ?_ ?_ ?_ ?_<;>(cbv;(try simp only[true_and,and_true]);(try ((repeat' apply And.intro)<;>(first|trivial|rfl|exact RowLe.rfl' _))))));(·(cbv;try rfl));(·simp)))
  | (fail)
  | fail)
end Go.Proofs.YtemnfncbgalljaaGreat
