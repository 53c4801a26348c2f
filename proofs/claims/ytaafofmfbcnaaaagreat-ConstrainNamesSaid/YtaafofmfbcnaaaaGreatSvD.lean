/- Layer 19, the chapter's examples. No condition. -/
import Derived.Test.YtaafofmfbcnaaaaGreatN6
namespace Go.Proofs.YtaafofmfbcnaaaaGreat
open Go.RowKit
set_option linter.unusedVariables false
set_option linter.unusedSimpArgs false
theorem conPlain (L:List KCon):plainR [conR L]:=⟨fun _ _=>rfl,trivial⟩
theorem allConLit {c c':Nat→Nat→Row} {w:World} {S:Nat→Value} {B:Nat→Nat} {st:St} (hM:MemIs c w S B st) (pa:Int) (un:Bool) (l b:SC) (hok:litOk st.h l b=true) (hO:fchkV (litF st.h B pa un l b)=0) (L:List KCon) (hL:allCon (litF st.h B pa un l b)=L):
 Calls Tryz.prog 30 #[(litF st.h B pa un l b).val] w (RetR w c' (.tup [.one (.rs 0),.one (.int .i64 0)]) [conR L]):=by
 have hO:GFun.Ok (litF st.h B pa un l b):=hO
 subst hL
 exact Calls.to (conPlain _) rfl (allConC _ w (litF_at hM hok) hO.small hO.nearS hO.chk)
set_option maxRecDepth 100000 in
set_option maxHeartbeats 4000000 in
theorem aliveC (w:World):
 Calls Tryz.prog 33 #[] w (Ret w (.bool true)):=by
 refine go_start (args:=[]) (c:=NoRows) Tryz.func33 rfl (noRows_ok _) rfl rfl ?_
 obtain ⟨nd,hnd,nt,hnt,ar,har,cm,hcm,mx,hmx,mn,hmn,ar01,ar12,zpl,hzpl,zjn,hzjn,zup,hzup,zmi,hzmi,zdp,hzdp,hT⟩:=t0_all
 subst hnd hnt har hcm hmx hmn hzpl hzjn hzup hzmi hzdp
 repeat' (first
  | ((with_reducible apply go_ev hT 400);(·(cbv;try rfl));(fail_if_success with_reducible apply stuck_id);(try simp only[ar01,ar12]))
  | refine go1 ?_|refine gobt ?_|refine gobn ?_|refine go3 (fun hlt=>?_) (fun hge=>?_)|refine go2 (fun h=>?_) (fun h=>?_)|exact go0|refine god ?_|refine gof ?_|refine gob ?_|(with_reducible refine fork_cons ?_ ?_)
  | ((with_reducible apply go_inline (f:=29) (hf:=Tryz.func29) (hr:=Tryz.results29) (hcall:=Tryz.call29));(·rfl);(·(cbv;try rfl)))
  | ((with_reducible apply go_inline (f:=27) (hf:=Tryz.func27) (hr:=Tryz.results27) (hcall:=Tryz.call27));(·rfl);(·(cbv;try rfl)))
  | ((with_reducible apply go_inline (f:=28) (hf:=Tryz.func28) (hr:=Tryz.results28) (hcall:=Tryz.call28));(·rfl);(·(cbv;try rfl)))
  | ((with_reducible apply go_inline (f:=26) (hf:=Tryz.func26) (hr:=Tryz.results26) (hcall:=Tryz.call26));(·rfl);(·(cbv;try rfl)))
  | ((with_reducible apply go_callB (f:=30) (hf:=Tryz.call30));(·intro S B;cbv;try rfl);(·intro wc S B hbc hxc hM;exact allConLit hM 0 false (.sl 14 0 3 3) (.sl 15 0 1 1) (by kernel_rfl) (by kernel_rfl) [⟨3,1,0,2⟩,⟨1,2,1,1⟩,⟨4,2,2,2⟩,⟨1,2,2,3⟩] (by kernel_rfl));(·rfl))
  | ((with_reducible apply go_inline (f:=34) (hf:=Tryz.func34) (hr:=Tryz.results34) (hcall:=Tryz.call34));(·rfl);(·(cbv;try rfl)))
  | (with_reducible apply go_rounds 6)
  | fail)
 all_goals rfl
end Go.Proofs.YtaafofmfbcnaaaaGreat
