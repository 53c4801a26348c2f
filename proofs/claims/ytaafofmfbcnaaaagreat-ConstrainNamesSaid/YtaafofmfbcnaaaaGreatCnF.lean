/- ConstrainNames, the walk. No condition. -/
import Derived.Test.YtaafofmfbcnaaaaGreatCnFb
namespace Go.Proofs.YtaafofmfbcnaaaaGreat
open Go.RowKit
set_option linter.unusedVariables false
set_option linter.unusedSimpArgs false
set_option maxRecDepth 100000 in
set_option maxHeartbeats 64000000 in
theorem cnamesL (w:World):
 Calls Tryz.prog 4 #[] w (Ret w (.bool true)):=by
 refine go_start (args:=[]) (c:=NoRows) Tryz.func4 rfl (noRows_ok _) rfl rfl ?_
 obtain ⟨nd,hnd,nt,hnt,ar,har,cm,hcm,mx,hmx,mn,hmn,ar01,ar12,zpl,hzpl,zjn,hzjn,zup,hzup,zmi,hzmi,zdp,hzdp,hT⟩:=t0_all
 subst hnd hnt har hcm hmx hmn hzpl hzjn hzup hzmi hzdp
 repeat' (first
  | refine go1 ?_|refine gobt ?_|refine gobn ?_|refine go3 (fun hlt=>?_) (fun hge=>?_)|refine go2 (fun h=>?_) (fun h=>?_)|exact go0|refine gof ?_|refine gob ?_|(with_reducible refine fork_cons ?_ ?_)
  | ((with_reducible apply go_call (f:=29) (hf:=Tryz.call29));(·(cbv;try rfl));(·intro wc hbc hxc;exact local19C _ wc))
  | ((with_reducible apply go_callq (f:=29) (hf:=Tryz.call29));(·(cbv;try rfl));(·intro wc hbc hxc;exact local19C _ wc))
  | ((with_reducible apply go_call (f:=27) (hf:=Tryz.call27));(·(cbv;try rfl));(·intro wc hbc hxc;exact borrow19C _ _ _ _ _ wc))
  | ((with_reducible apply go_callq (f:=27) (hf:=Tryz.call27));(·(cbv;try rfl));(·intro wc hbc hxc;exact borrow19C _ _ _ _ _ wc))
  | ((with_reducible apply go_call (f:=28) (hf:=Tryz.call28));(·(cbv;try rfl));(·intro wc hbc hxc;exact take19C _ _ _ _ _ wc))
  | ((with_reducible apply go_callq (f:=28) (hf:=Tryz.call28));(·(cbv;try rfl));(·intro wc hbc hxc;exact take19C _ _ _ _ _ wc))
  | ((with_reducible apply go_inline (f:=26) (hf:=Tryz.func26) (hr:=Tryz.results26) (hcall:=Tryz.call26));(·rfl);(·(cbv;try rfl)))
  | (((apply go_allLit (dst:=some 36) [⟨3,2,0,2⟩,⟨1,2,0,3⟩,⟨1,2,1,1⟩]);(·(intro S B;cbv;try rfl));(·kernel_rfl);(·(intro B;kernel_rfl));(·(intro B;kernel_rfl))))
  | (((apply go_allLit (dst:=some 45) [⟨3,2,0,2⟩]);(·(intro S B;cbv;try rfl));(·kernel_rfl);(·(intro B;kernel_rfl));(·(intro B;kernel_rfl))))
  | (((apply go_allLit (dst:=some 63) []);(·(intro S B;cbv;try rfl));(·kernel_rfl);(·(intro B;kernel_rfl));(·(intro B;kernel_rfl))))
  | (((apply go_clivesLit (dst:=some 50) 0 3 8 9 [2,2,6,4,5,5,5,1] [[],[],[false,false,true,true,true,true,true]]);(·(intro S B;cbv;try rfl));(·kernel_rfl);(·(intro B;kernel_rfl));(·(intro B;kernel_rfl));(·(intro B;kernel_rfl));(·(intro B;kernel_rfl));(·(intro B;kernel_rfl));(·rfl);(·rfl);(·exact ⟨fun _ _=>rfl,fun _ _=>rfl,trivial⟩);(·intro q i j hq hj;exact absurd hq (Nat.not_lt_zero _));(intro A1;refine go_seen 2 (fun j=>[.xs 0 j]) rfl seenG ?_)))
  | (((apply go_clivesLit (dst:=some 77) 1 3 3 9 [1,2,1] [[],[false,true]]);(·(intro S B;cbv;try rfl));(·kernel_rfl);(·(intro B;kernel_rfl));(·(intro B;kernel_rfl));(·(intro B;kernel_rfl));(·(intro B;kernel_rfl));(·(intro B;kernel_rfl));(·rfl);(·rfl);(·exact ⟨fun _ _=>rfl,fun _ _=>rfl,fun _ _=>rfl,fun _ _=>rfl,trivial⟩);(·intro q i j hq hj;match q,hq with|0,_=>rfl);(intro A2)))
  | (((apply go_clivesNo (dst:=some 82) 8);(·(intro S B;cbv;try rfl));(·kernel_rfl);(·(intro B;kernel_rfl));(·decide)))
  | (((apply go_allNo (dst:=some 87) 8);(·(intro S B;cbv;try rfl));(·kernel_rfl);(·(intro B;kernel_rfl));(·decide)))
  | (((apply go_chkNo19 8);(·(intro S B;cbv;try rfl));(·kernel_rfl);(·(intro B;kernel_rfl));(·(intro B;rfl))))
  | fail)
 with_reducible refine go_drawE (id:=14) (by kernel_rfl) ?_
 repeat' (first
  | (((with_reducible apply go_plan true hT 72 0 [0]);(·rfl);(·rfl);(·rfl);(·kernel_rfl);(·kernel_rfl);(·(cbv;try rfl));(·(cbv;try rfl))))
  | (((with_reducible apply go_one1 72 1 1);(·rfl);(·rfl);(·kernel_rfl);(with_reducible apply go_oneCall hT);(·(cbv;try rfl));(·(cbv;try rfl));(·(cbv;try rfl))))
  | (((with_reducible apply go_plan true hT 72 2 [2,3,4,5,6,7,8,9,10,11]);(·rfl);(·rfl);(·rfl);(·kernel_rfl);(·kernel_rfl);(·(cbv;try rfl));(·(cbv;try rfl))))
  | (((with_reducible apply go_one1 72 12 12);(·rfl);(·rfl);(·kernel_rfl);(with_reducible apply go_oneNb hT);(·(cbv;try rfl));(·(cbv;try rfl));(·(cbv;try rfl))))
  | (((with_reducible apply go_one1 72 13 13);(·rfl);(·rfl);(·kernel_rfl);(with_reducible apply go_oneCall hT);(·(cbv;try rfl));(·(cbv;try rfl));(·(cbv;try rfl))))
  | (((with_reducible apply go_plan true hT 72 14 [14,15,16,17,18,19,20,21]);(·rfl);(·rfl);(·rfl);(·kernel_rfl);(·kernel_rfl);(·(cbv;try rfl));(·(cbv;try rfl))))
  | (((with_reducible apply go_one1 72 22 22);(·rfl);(·rfl);(·kernel_rfl);(with_reducible apply go_oneNb hT);(·(cbv;try rfl));(·(cbv;try rfl));(·(cbv;try rfl))))
  | (((with_reducible apply go_one1 72 23 23);(·rfl);(·rfl);(·kernel_rfl);(with_reducible apply go_oneCall hT);(·(cbv;try rfl));(·(cbv;try rfl));(·(cbv;try rfl))))
  | (((with_reducible apply go_plan true hT 72 24 [24,25,26,27,28,29,30,31]);(·rfl);(·rfl);(·rfl);(·kernel_rfl);(·kernel_rfl);(·(cbv;try rfl));(·(cbv;try rfl))))
  | (((with_reducible apply go_two1 72 32 32 33);(·rfl);(·rfl);(·kernel_rfl)))
  | (((with_reducible apply go_one1 72 33 33);(·rfl);(·rfl);(·(cbv;try rfl));(with_reducible apply go_oneRow hT);(·(cbv;try rfl));(·(cbv;try rfl));(·(cbv;try rfl))))
  | (((with_reducible apply go_one1 72 33 32);(·rfl);(·rfl);(·(cbv;try rfl));(with_reducible apply go_oneV hT);(·(cbv;try rfl));(·(cbv;try rfl));(·(cbv;try rfl))))
  | (((with_reducible apply go_one1 72 34 34);(·rfl);(·rfl);(·kernel_rfl);(with_reducible apply go_oneCall hT);(·(cbv;try rfl));(·(cbv;try rfl));(·(cbv;try rfl))))
  | (((with_reducible apply go_plan true hT 72 35 [35,36,37,38,39,40,41,42,43,44,45,46,47,48,49,50,51,53]);(·rfl);(·rfl);(·rfl);(·kernel_rfl);(·kernel_rfl);(·(cbv;try rfl));(·(cbv;try rfl))))
  | (((with_reducible apply go_one1 72 53 52);(·rfl);(·rfl);(·kernel_rfl);(with_reducible apply go_oneNb hT);(·(cbv;try rfl));(·(cbv;try rfl));(·(cbv;try rfl))))
  | (((with_reducible apply go_one1 72 54 54);(·rfl);(·rfl);(·kernel_rfl);(with_reducible apply go_oneNb hT);(·(cbv;try rfl));(·(cbv;try rfl));(·(cbv;try rfl))))
  | (((with_reducible apply go_one1 72 55 55);(·rfl);(·rfl);(·kernel_rfl);(with_reducible apply go_oneCall hT);(·(cbv;try rfl));(·(cbv;try rfl));(·(cbv;try rfl))))
  | (((with_reducible apply go_plan true hT 72 56 [56,57,58,59,60,61,62,63,64,65,66,67,68,69,70,71]);(·rfl);(·rfl);(·rfl);(·kernel_rfl);(·kernel_rfl);(·(cbv;try rfl));(·(cbv;try rfl))))
  | (((with_reducible apply go_planEnd 72);(·rfl);(·rfl);(·kernel_rfl)))
  | (((with_reducible apply go_oneV hT (i:=32));(·(cbv;try rfl));(·(cbv;try rfl));(·(cbv;try rfl))))
  | (((with_reducible apply go_oneRow hT (i:=33));(·(cbv;try rfl));(·(cbv;try rfl));(·(cbv;try rfl))))
  | (((with_reducible apply go_call (f:=33) (hf:=Tryz.call33));(·(cbv;try rfl));(·intro wc hbc hxc;exact aliveC wc);(with_reducible apply go_lit 94 true);(·rfl)))
  | (((with_reducible apply go_callBv (dst:=some 106) (f:=34) (hf:=Tryz.call34));(·intro S B;cbv;try rfl);(·intro wc S B hbc hxc hM;exact same19L hM _ _ [⟨3,2,0,2⟩,⟨1,2,0,3⟩,⟨1,2,1,1⟩] rfl rfl (by decide));(with_reducible apply go_lit 106 true);(·rfl)))
  | (((with_reducible apply go_callBv (dst:=some 116) (f:=34) (hf:=Tryz.call34));(·intro S B;cbv;try rfl);(·intro wc S B hbc hxc hM;exact same19L hM _ _ [⟨3,2,0,2⟩] rfl rfl (by decide));(with_reducible apply go_lit 116 true);(·rfl)))
  | (((with_reducible apply go_callRv (dst:=some 127) (f:=35) (hf:=Tryz.call35));(·intro S;cbv;try rfl);(·intro wc S hbc hxc hrc;exact same18X hxc (hrc _ _ rfl) 0 1 rfl (by decide) (by intro j hj;rfl));(with_reducible apply go_lit 127 true);(·rfl)))
  | (((with_reducible apply go_callBv (dst:=some 148) (f:=36) (hf:=Tryz.call36));(·intro S B;cbv;try rfl);(·intro wc S B hbc hxc hM;exact same18L hM hxc _ _ _ _ rfl rfl rfl rfl (fun j hj=>⟨1,j,fam_at hj⟩));(with_reducible apply go_lit 148 true);(·rfl)))
  | refine go1 ?_|refine gobt ?_|refine gobn ?_|refine go3 (fun hlt=>?_) (fun hge=>?_)|refine go2 (fun h=>?_) (fun h=>?_)|exact go0|refine god ?_|refine gof ?_|refine gob ?_|(with_reducible refine fork_cons ?_ ?_)
  | fail)
 all_goals rfl
end Go.Proofs.YtaafofmfbcnaaaaGreat
