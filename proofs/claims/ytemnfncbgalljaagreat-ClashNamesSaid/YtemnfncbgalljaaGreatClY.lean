/- Lemmas. No condition. -/
import Derived.Test.YtemnfncbgalljaaGreatZ2
namespace Go.Proofs.YtemnfncbgalljaaGreat
open Go.RowKit
set_option linter.all false
set_option maxHeartbeats 64000000
set_option maxRecDepth 100000
section
variable {Q:E9z} {c:R9z} {w0:Base}
theorem Qpia {P:Program} (ws:List Nat) (ups:List (Nat×SV)) {ops:Array Oper} {l:List Bool} {f:Nat} {k:List Item} {st:St} (hk:noA k=true)
 (h1:Goes P (fun _ _ _=>False) c w0 [.aops ops l f,.stop (Q3z (fun _:Unit=>c) w0 (fun _=>st.lay ws ups [] []))] st) (h2:Goes P Q c w0 k (st.lay ws ups [] [])):Goes P Q c w0 (.aops ops l f::k) st:=Q3ca (fun _=>c) _ hk h1 (fun _=>h2)
theorem Qlia {P:Program} (id n:Nat) {ops:Array Oper} {k:List Item} {st:St} (_hn:ops.size=n) (hm:P.follows .mixedOrders=true) (h:Goes P Q c w0 (.aops ops (Q4o ops.size) ops.size::k) st):OutOk P Q c w0 (.draw id ops k st):=Q4d hm h
theorem Qxia (z:Int) {pa:Int} {un:Bool} {l b:SC} {dst:Option Nat} {k:List Item} {st:St} (hv:∀S B,Qjv S B c [.pt (.agg [.int .i64 pa,.lit un,l,b])]=some [(Qxba st.h B pa un l b).val]) (hok:Qtca st.h l b=true) (hz:∀B,fchkV (Qxba st.h B pa un l b)=z) (hz0:z≠0) (h:Goes Tryz.prog Q c w0 k (st.put dst (ofR (.tuple #[.slice none 0 0,.int .i64 z])))):OutOk Tryz.prog Q c w0 (.call 20 [.pt (.agg [.int .i64 pa,.lit un,l,b])] dst k st):=
 Qqba (vs:=fun S B=>[(Qxba st.h B pa un l b).val]) hv Tryz.call20 (fun w S B hk hx hM=>by
  have:=Qqfa (Qxba st.h B pa un l b) w (Qfca hM hok) (by rw[hz];exact hz0)
  rw[hz] at this;exact this) h
theorem Qyia (z:Int) {pa xi:Int} {un:Bool} {l b:SC} {dst:Option Nat} {k:List Item} {st:St} (hv:∀S B,Qjv S B c [.pt (.agg [.int .i64 pa,.lit un,l,b]),.pt (.one (.int .i64 xi))]=some [(Qxba st.h B pa un l b).val,.int .i64 xi]) (hok:Qtca st.h l b=true) (hz:∀B,fchkV (Qxba st.h B pa un l b)=z) (hz0:z≠0) (h:Goes Tryz.prog Q c w0 k (st.put dst (ofR (.tuple #[.slice none 0 0,.int .i64 z])))):OutOk Tryz.prog Q c w0 (.call 49 [.pt (.agg [.int .i64 pa,.lit un,l,b]),.pt (.one (.int .i64 xi))] dst k st):=
 Qqba (vs:=fun S B=>[(Qxba st.h B pa un l b).val,.int .i64 xi]) hv Tryz.call49 (fun w S B hk hx hM=>by
  have:=Qtia (Qxba st.h B pa un l b) w (Qfca hM hok) (by rw[hz];exact hz0) xi
  rw[hz] at this;exact this) h
theorem Qvia {pa xi:Int} {un:Bool} {l b:SC} {dst:Option Nat} {k:List Item} {st:St} (hv:∀S B,Qjv S B c [.pt (.agg [.int .i64 pa,.lit un,l,b]),.pt (.one (.int .i64 xi))]=some [(Qxba st.h B pa un l b).val,.int .i64 xi]) (hok:Qtca st.h l b=true) (hO:∀B,fchkV (Qxba st.h B pa un l b)=0) (hx:∀B,(decide (xi<0)||decide ((stN (Qxba st.h B pa un l b).sn (Qxba st.h B pa un l b).bn:Int)<=xi))=true) (h:Goes Tryz.prog Q c w0 k (st.put dst (ofR (.tuple #[.slice none 0 0,.int .i64 2])))):OutOk Tryz.prog Q c w0 (.call 49 [.pt (.agg [.int .i64 pa,.lit un,l,b]),.pt (.one (.int .i64 xi))] dst k st):=
 Qqba (vs:=fun S B=>[(Qxba st.h B pa un l b).val,.int .i64 xi]) hv Tryz.call49 (fun w S B hk hx' hM=>by
  have hO:GFun.Ok (Qxba st.h B pa un l b):=hO B
  have h:=hx B
  simp only[Bool.or_eq_true,decide_eq_true_eq] at h
  exact Quia _ w (Qfca hM hok) hO xi h) h
theorem Qsia (z:Int) {pa:Int} {un:Bool} {l b:SC} {dst:Option Nat} {k:List Item} {st:St} (hv:∀S B,Qjv S B c [.pt (.agg [.int .i64 pa,.lit un,l,b])]=some [(Qxba st.h B pa un l b).val]) (hok:Qtca st.h l b=true) (hz:∀B,fchkV (Qxba st.h B pa un l b)=z) (hn:∀B,(Qxba st.h B pa un l b).ln=0) (h:Goes Tryz.prog Q c w0 k (st.put dst (ofR (.int .i64 z)))):OutOk Tryz.prog Q c w0 (.call 35 [.pt (.agg [.int .i64 pa,.lit un,l,b])] dst k st):=
 Qqba (vs:=fun S B=>[(Qxba st.h B pa un l b).val]) hv Tryz.call35 (fun w S B hk hx hM=>by
  have:=Q2p (Qxba st.h B pa un l b) w (Qfca hM hok) (fun i hi=>by rw[hn] at hi;omega)
  rw[Qdj,hz] at this;exact this) h
end
theorem Qkia (k l f:Int) (d:Bool) (w:World):Calls Tryz.prog 45 #[.int .u8 k,.agg #[.int .i64 l,.bool d,.int .u8 f]] w (Ret w (GRv.val ⟨4,0,k,.zero,.zero,⟨l,d,f⟩⟩)):=by
 refine Qaa (args:=[.pt (.one (.int .u8 k)),.pt (.agg [.int .i64 l,.bool d,.int .u8 f])]) (c:=Qra) Tryz.func45 rfl (Qga _) rfl rfl ?_
 obtain ⟨_,_,_,hnt,_,har,_,hcm,_,_,_,_,ar01,ar12,_,hzpl,_,_,_,_,_,_,_,_,hT⟩:=Qca
 repeat' (first
  | refine goa ?_|refine go3 (fun hlt=>?_) (fun hge=>?_)|refine go2 (fun h=>?_) (fun h=>?_)|exact go0|refine goz ?_|refine Qvha ?_ ?_
  | fail)
 all_goals rfl
theorem Qria (l f:Int) (d:Bool) (w:World):Calls Tryz.prog 47 #[.agg #[.int .i64 l,.bool d,.int .u8 f]] w (Ret w (GStmt.val ⟨2,.zero,.zero,⟨2,0,⟨l,d,f⟩⟩,0⟩)):=by
 refine Qaa (args:=[.pt (.agg [.int .i64 l,.bool d,.int .u8 f])]) (c:=Qra) Tryz.func47 rfl (Qga _) rfl rfl ?_
 obtain ⟨_,_,_,hnt,_,har,_,hcm,_,_,_,_,ar01,ar12,_,hzpl,_,_,_,_,_,_,_,_,hT⟩:=Qca
 repeat' (first
  | refine goa ?_|refine go3 (fun hlt=>?_) (fun hge=>?_)|refine go2 (fun h=>?_) (fun h=>?_)|exact go0|refine goz ?_|refine Qvha ?_ ?_
  | fail)
 all_goals rfl
theorem Qmia (l f:Int) (d:Bool) (w:World):Calls Tryz.prog 40 #[.agg #[.int .i64 l,.bool d,.int .u8 f]] w (Ret w (.agg #[.int .i64 l,.bool d,.int .u8 f,.bool true,.bool false])):=by
 refine Qaa (args:=[.pt (.agg [.int .i64 l,.bool d,.int .u8 f])]) (c:=Qra) Tryz.func40 rfl (Qga _) rfl rfl ?_
 obtain ⟨_,_,_,hnt,_,har,_,hcm,_,_,_,_,ar01,ar12,_,hzpl,_,_,_,_,_,_,_,_,hT⟩:=Qca
 repeat' (first
  | refine goa ?_|refine go3 (fun hlt=>?_) (fun hge=>?_)|refine go2 (fun h=>?_) (fun h=>?_)|exact go0|refine goz ?_|refine Qvha ?_ ?_
  | fail)
 all_goals rfl
theorem Qoia (l f:Int) (d e:Bool) (w:World):Calls Tryz.prog 41 #[.agg #[.int .i64 l,.bool d,.int .u8 f],.bool e] w (Ret w (.agg #[.int .i64 l,.bool d,.int .u8 f,.bool e,.bool true])):=by
 refine Qaa (args:=[.pt (.agg [.int .i64 l,.bool d,.int .u8 f]),.pt (.one (.bool e))]) (c:=Qra) Tryz.func41 rfl (Qga _) rfl rfl ?_
 obtain ⟨_,_,_,hnt,_,har,_,hcm,_,_,_,_,ar01,ar12,_,hzpl,_,_,_,_,_,_,_,_,hT⟩:=Qca
 repeat' (first
  | refine goa ?_|refine go3 (fun hlt=>?_) (fun hge=>?_)|refine go2 (fun h=>?_) (fun h=>?_)|exact go0|refine goz ?_|refine Qvha ?_ ?_
  | fail)
 all_goals rfl
structure ClCuts (T:Prop) where
 q4:Option Addr->Prop
 q5:Option Addr->Prop
 q6:Option Addr->Prop
 q8:Option Addr->Prop
 q10:Option Addr->Prop
 q11:Option Addr->Prop
 q15:Option Addr->Prop
 join:(∀a,q4 a)->(∀a,q5 a)->(∀a,q6 a)->(∀a,q8 a)->(∀a,q10 a)->(∀a,q11 a)->(∀a,q15 a)->T
noncomputable def Quja (w:World):ClCuts (Calls Tryz.prog 11 #[] w (Ret w (.bool true))):=by
 refine' ⟨_,_,_,_,_,_,_,fun h4 h5 h6 h8 h10 h11 h15=>?main⟩
 case main=>
  refine Qaa (args:=[]) (c:=Qra) Tryz.func11 rfl (Qga _) rfl rfl ?_
  obtain ⟨_,hnd,_,hnt,_,har,_,hcm,_,hmx,_,hmn,ar01,ar12,_,hzpl,_,hzjn,_,hzup,_,hzmi,_,hzdp,hT⟩:=Qca
  subst hnd hnt har hcm hmx hmn hzpl hzjn hzup hzmi hzdp
  repeat' (first
   | (((with_reducible refine Qlia 4 23 ?_ (by kernel_rfl) ?_);(·rfl);(refine Q9d 1 0 rfl rfl rfl rfl rfl trivial rfl (Qlba 0) (Qlca 0) (fun a1 _=>?_));(refine Qpia (zs9 [33,22]) [(4,.pt (.one (.lit true)))] rfl ?_ ?_);(·exact h4 a1)))
   | (((with_reducible refine Qlia 5 24 ?_ (by kernel_rfl) ?_);(·rfl);(refine Qpia (zs9 [55,23]) [(5,.pt (.one (.lit true)))] rfl ?_ ?_);(·exact h5 a1)))
   | (((with_reducible refine Qlia 6 21 ?_ (by kernel_rfl) ?_);(·rfl);(refine Q5ba (zs9 [78,19]) [(6,.pt (.one (.ptr 6 0)))] [] [some [.int .u8 1,.int .i64 4,.bool false,.int .u8 0,.int .u8 4,.int .u8 0,.int .u8 1,.int .u8 0,.int .i64 0,.int .i64 0,.bool false,.int .u8 0,.int .u8 0,.int .i64 0,.int .i64 0,.bool false,.int .u8 0,.int .i64 1,.bool false,.int .u8 0,.int .u8 0,.int .i64 0,.int .i64 0,.bool false,.int .u8 0,.int .i64 0,.int .u8 1,.int .i64 2,.bool false,.int .u8 0,.int .u8 4,.int .u8 0,.int .u8 3,.int .u8 0,.int .i64 0,.int .i64 0,.bool false,.int .u8 0,.int .u8 0,.int .i64 0,.int .i64 0,.bool false,.int .u8 0,.int .i64 1,.bool false,.int .u8 0,.int .u8 0,.int .i64 0,.int .i64 0,.bool false,.int .u8 0,.int .i64 0,.int .u8 1,.int .i64 3,.bool false,.int .u8 0,.int .u8 1,.int .u8 0,.int .u8 0,.int .u8 3,.int .i64 0,.int .i64 2,.bool false,.int .u8 0,.int .u8 0,.int .i64 0,.int .i64 0,.bool false,.int .u8 0,.int .i64 0,.bool false,.int .u8 0,.int .u8 0,.int .i64 0,.int .i64 0,.bool false,.int .u8 0,.int .i64 0,.int .u8 2,.int .i64 0,.bool false,.int .u8 0,.int .u8 0,.int .u8 0,.int .u8 0,.int .u8 0,.int .i64 0,.int .i64 0,.bool false,.int .u8 0,.int .u8 0,.int .i64 0,.int .i64 0,.bool false,.int .u8 0,.int .i64 0,.bool false,.int .u8 0,.int .u8 2,.int .i64 0,.int .i64 4,.bool true,.int .u8 0,.int .i64 0,.int .u8 1,.int .i64 3,.bool true,.int .u8 0,.int .u8 1,.int .u8 0,.int .u8 0,.int .u8 1,.int .i64 0,.int .i64 0,.bool false,.int .u8 0,.int .u8 0,.int .i64 0,.int .i64 0,.bool false,.int .u8 0,.int .i64 0,.bool false,.int .u8 0,.int .u8 0,.int .i64 0,.int .i64 0,.bool false,.int .u8 0,.int .i64 0],none,none,some [.int .u8 1,.int .u8 0,.int .u8 1,.int .u8 0,.int .u8 4,.int .u8 1,.int .u8 4,.int .u8 1,.int .u8 4,.int .u8 1],some [.sl 1 0 5 5,.int .u8 3,.int .u8 0,.int .i64 0,.int .i64 0,.bool false,.int .u8 0,.int .i64 0,.int .i64 0,.int .i64 0,.val (.slice none 0 0),.int .i64 0,.bool false,.int .u8 0],some [.int .i64 0,.lit false,.sl 4 0 5 5,.sl 5 0 1 1]] rfl ?_ ?_);(·exact h6 a1)))
   | (((with_reducible refine Qlia 8 8 ?_ (by kernel_rfl) ?_);(·rfl);(refine Qpia (zs9 [101,7]) [(7,.pt (.one (.lit true)))] rfl ?_ ?_);(·exact h8 a1)))
   | (((with_reducible refine Qlia 10 19 ?_ (by kernel_rfl) ?_);(·rfl);(refine Qpia (zs9 [132,18]) [(9,.pt (.one (.lit true)))] rfl ?_ ?_);(·exact h10 a1)))
   | (((with_reducible refine Qlia 11 24 ?_ (by kernel_rfl) ?_);(·rfl);(refine Qpia (zs9 [150,23]) [(10,.pt (.one (.lit true)))] rfl ?_ ?_);(·exact h11 a1)))
   | (((with_reducible refine Qlia 15 13 ?_ (by kernel_rfl) ?_);(·rfl);(refine Qpia (zs9 [199,12]) [(13,.pt (.one (.lit true)))] rfl ?_ ?_);(·exact h15 a1)))
   | (refine gov ?_;(try simp only[ar01,ar12]))
   | (((with_reducible apply go_takeC 0 hT (g:=39) (hfun:=Tryz.call39));(·rfl);(·kernel_rfl);(·rfl);(·rfl);(·(intro h_;cases h_));(·kernel_rfl);(·kernel_rfl);(·kernel_rfl);(·(cbv;try rfl));(·(cbv;try rfl));(·(cbv;try rfl));(·intro wc;exact Q1ha _ wc)))
   | (((with_reducible apply go_takeC 0 hT (g:=46) (hfun:=Tryz.call46));(·rfl);(·kernel_rfl);(·rfl);(·rfl);(·(intro h_;cases h_));(·kernel_rfl);(·kernel_rfl);(·kernel_rfl);(·(cbv;try rfl));(·(cbv;try rfl));(·(cbv;try rfl));(·intro wc;exact Qxha _ wc)))
   | (((with_reducible apply go_takeC 0 hT (g:=45) (hfun:=Tryz.call45));(·rfl);(·kernel_rfl);(·rfl);(·rfl);(·(intro h_;cases h_));(·kernel_rfl);(·kernel_rfl);(·kernel_rfl);(·(cbv;try rfl));(·(cbv;try rfl));(·(cbv;try rfl));(·intro wc;exact Qkia _ _ _ _ wc)))
   | (((with_reducible apply go_takeC 0 hT (g:=38) (hfun:=Tryz.call38));(·rfl);(·kernel_rfl);(·rfl);(·rfl);(·(intro h_;cases h_));(·kernel_rfl);(·kernel_rfl);(·kernel_rfl);(·(cbv;try rfl));(·(cbv;try rfl));(·(cbv;try rfl));(·intro wc;exact Qeia _ _ _ _ wc)))
   | (((with_reducible apply go_takeC 0 hT (g:=44) (hfun:=Tryz.call44));(·rfl);(·kernel_rfl);(·rfl);(·rfl);(·(intro h_;cases h_));(·kernel_rfl);(·kernel_rfl);(·kernel_rfl);(·(cbv;try rfl));(·(cbv;try rfl));(·(cbv;try rfl));(·intro wc;exact Qzha _ _ _ _ _ _ _ _ _ _ _ _ _ _ _ _ _ _ _ wc)))
   | (((with_reducible apply go_takeC 0 hT (g:=47) (hfun:=Tryz.call47));(·rfl);(·kernel_rfl);(·rfl);(·rfl);(·(intro h_;cases h_));(·kernel_rfl);(·kernel_rfl);(·kernel_rfl);(·(cbv;try rfl));(·(cbv;try rfl));(·(cbv;try rfl));(·intro wc;exact Qria _ _ _ wc)))
   | (((with_reducible apply go_takeC 0 hT (g:=40) (hfun:=Tryz.call40));(·rfl);(·kernel_rfl);(·rfl);(·rfl);(·(intro h_;cases h_));(·kernel_rfl);(·kernel_rfl);(·kernel_rfl);(·(cbv;try rfl));(·(cbv;try rfl));(·(cbv;try rfl));(·intro wc;exact Qmia _ _ _ wc)))
   | (((with_reducible apply go_takeC 0 hT (g:=41) (hfun:=Tryz.call41));(·rfl);(·kernel_rfl);(·rfl);(·rfl);(·(intro h_;cases h_));(·kernel_rfl);(·kernel_rfl);(·kernel_rfl);(·(cbv;try rfl));(·(cbv;try rfl));(·(cbv;try rfl));(·intro wc;exact Qoia _ _ _ _ wc)))
   | refine goa ?_|refine go3 (fun hlt=>?_) (fun hge=>?_)|refine go2 (fun h=>?_) (fun h=>?_)|exact go0|refine goz ?_|refine Qvha ?_ ?_
   | (refine' Qiha Tryz.call39 ?_ ?_;rotate_left;(·intro wc hbc hxc;exact Q1ha _ wc))
   | (refine' Qiha Tryz.call46 ?_ ?_;rotate_left;(·intro wc hbc hxc;exact Qxha _ wc))
   | (refine' Qiha Tryz.call45 ?_ ?_;rotate_left;(·intro wc hbc hxc;exact Qkia _ _ _ _ wc))
   | (refine' Qiha Tryz.call38 ?_ ?_;rotate_left;(·intro wc hbc hxc;exact Qeia _ _ _ _ wc))
   | (refine' Qiha Tryz.call44 ?_ ?_;rotate_left;(·intro wc hbc hxc;exact Qzha _ _ _ _ _ _ _ _ _ _ _ _ _ _ _ _ _ _ _ wc))
   | (refine' Qiha Tryz.call47 ?_ ?_;rotate_left;(·intro wc hbc hxc;exact Qria _ _ _ wc))
   | (refine' Qiha Tryz.call40 ?_ ?_;rotate_left;(·intro wc hbc hxc;exact Qmia _ _ _ wc))
   | (refine' Qiha Tryz.call41 ?_ ?_;rotate_left;(·intro wc hbc hxc;exact Qoia _ _ _ _ wc))
   | refine Qhha Tryz.func43 Tryz.results43 Tryz.call43 ?_
   | refine Qhha Tryz.func42 Tryz.results42 Tryz.call42 ?_
   | refine Qhha Tryz.func48 Tryz.results48 Tryz.call48 ?_
   | (refine' Qiha Tryz.call51 ?_ ?_;rotate_left;(·intro wc hbc hxc;exact Q7ha wc))
   | refine Qhha Tryz.func37 Tryz.results37 Tryz.call37 ?_
   | refine Qhha Tryz.func84 Tryz.results84 Tryz.call84 ?_
   | (with_reducible apply Qqa 5)
   | (refine' Qiha Tryz.call50 ?_ ?_;rotate_left;(·intro wc hbc hxc;exact Q8ha _ _ _ _ _ _ _ _ _ _ _ _ (by decide) (by decide) wc))
   | (((apply Qjia [[1,2,4,2,1,0],[1,3,4,2,1,0],[1,2,1,0,0,0],[1,3,1,0,0,0]] [⟨1,0,⟨⟨1,false,0⟩,true,true⟩⟩]);(·(intro S B;cbv;try rfl));(·(intro B;cbv));(·kernel_rfl);(·(intro B;kernel_rfl));(·(intro B;kernel_rfl));(·exact fun B hO=>(Qqia (K:=8) (M:=[3,7,13,9,1]) (r:=4) (s:=8) (T:=[[false,true,true,false,false],[false,false,true,true,false]]) (U:=[[false,false,false,false,false],[false,false,false,false,false]]) hO (by kernel_rfl)).trans (by kernel_rfl))))
   | (((apply Qjia [[1,2,4,3,1,0],[2,0,0,0,0,0],[1,3,1,0,0,2],[2,0,0,0,0,0],[1,3,1,0,0,0]] [⟨3,0,⟨⟨1,false,0⟩,false,true⟩⟩]);(·(intro S B;cbv;try rfl));(·(intro B;cbv));(·kernel_rfl);(·(intro B;kernel_rfl));(·(intro B;kernel_rfl));(·exact fun B hO=>(Qqia (K:=8) (M:=[3,7,7,11,9,1]) (r:=4) (s:=8) (T:=[[false,true,true,true,true,false]]) (U:=[[false,false,false,true,true,false]]) hO (by kernel_rfl)).trans (by kernel_rfl))))
   | (((apply Qjia [[1,4,4,1,1,0],[1,2,4,3,1,0],[1,3,1,0,0,2],[2,0,0,0,0,0],[1,3,1,0,0,0]] [⟨2,0,⟨⟨1,false,0⟩,true,true⟩⟩]);(·(intro S B;cbv;try rfl));(·(intro B;cbv));(·kernel_rfl);(·(intro B;kernel_rfl));(·(intro B;kernel_rfl));(·exact fun B hO=>(Qqia (K:=8) (M:=[3,19,21,25,9,1]) (r:=4) (s:=8) (T:=[[false,true,true,true,false,false],[false,false,true,true,true,false]]) (U:=[[false,false,false,false,false,false],[false,false,false,true,true,false]]) hO (by kernel_rfl)).trans (by kernel_rfl))))
   | (((apply Qjia [[1,2,4,2,1,0],[1,3,4,3,2,0],[1,2,4,2,0,0],[1,4,1,0,0,3]] [⟨2,1,⟨⟨2,false,0⟩,true,false⟩⟩]);(·(intro S B;cbv;try rfl));(·(intro B;cbv));(·kernel_rfl);(·(intro B;kernel_rfl));(·(intro B;kernel_rfl));(·exact fun B hO=>(Qqia (K:=8) (M:=[3,5,9,9,1]) (r:=4) (s:=8) (T:=[[false,true,true,true,false],[false,false,true,false,false],[false,false,false,true,false]]) (U:=[[false,false,false,false,false],[false,false,false,false,false],[false,false,false,false,false]]) hO (by kernel_rfl)).trans (by kernel_rfl))))
   | (((apply Qjia [[1,2,4,2,1,0],[1,3,4,2,2,0],[1,2,4,2,0,0],[1,3,1,0,0,0]] []);(·(intro S B;cbv;try rfl));(·(intro B;cbv));(·kernel_rfl);(·(intro B;kernel_rfl));(·(intro B;kernel_rfl));(·exact fun B hO=>(Qqia (K:=8) (M:=[3,5,9,9,1]) (r:=4) (s:=8) (T:=[[false,true,true,true,false],[false,false,true,false,false],[false,false,false,true,false]]) (U:=[[false,false,false,false,false],[false,false,false,false,false],[false,false,false,false,false]]) hO (by kernel_rfl)).trans (by kernel_rfl))))
   | (((apply Qjia [[1,2,4,2,1,0],[1,3,4,2,2,0],[1,4,1,0,0,2],[1,3,1,0,0,0]] [⟨2,1,⟨⟨2,false,0⟩,true,true⟩⟩]);(·(intro S B;cbv;try rfl));(·(intro B;cbv));(·kernel_rfl);(·(intro B;kernel_rfl));(·(intro B;kernel_rfl));(·exact fun B hO=>(Qqia (K:=8) (M:=[3,5,13,9,1]) (r:=4) (s:=8) (T:=[[false,true,true,true,false],[false,false,true,true,false]]) (U:=[[false,false,false,false,false],[false,false,false,false,false]]) hO (by kernel_rfl)).trans (by kernel_rfl))))
   | (((apply Qjia [[1,2,4,1,1,0],[3,0,0,0,0,0],[2,0,0,0,0,0]] [⟨1,0,⟨⟨1,false,0⟩,true,false⟩⟩]);(·(intro S B;cbv;try rfl));(·(intro B;cbv));(·kernel_rfl);(·(intro B;kernel_rfl));(·(intro B;kernel_rfl));(·exact fun B hO=>(Qqia (K:=8) (M:=[3,5,5,1]) (r:=4) (s:=8) (T:=[[false,true,true,false]]) (U:=[[false,false,false,false]]) hO (by kernel_rfl)).trans (by kernel_rfl))))
   | (((apply Qyha 0 [⟨⟨2,false,0⟩,true,true⟩,⟨⟨3,true,0⟩,false,true⟩,⟨⟨4,true,0⟩,true,false⟩] (by rfl));(·(intro S B;cbv;try rfl));(·kernel_rfl);(·(intro B;cbv));(·(intro B;cbv));(·(intro B;cbv))))
   | (((apply Qvia);(·(intro S B;cbv;try rfl));(·kernel_rfl);(·(intro B;cbv));(·(intro B;cbv))))
   | (((apply Qxia 8);(·(intro S B;cbv;try rfl));(·kernel_rfl);(·(intro B;cbv));(·decide)))
   | (((apply Qyia 8);(·(intro S B;cbv;try rfl));(·kernel_rfl);(·(intro B;cbv));(·decide)))
   | (((apply Qsia 8);(·(intro S B;cbv;try rfl));(·kernel_rfl);(·(intro B;cbv));(·(intro B;rfl))))
   | (((with_reducible refine Qtba [] () rfl ?_ ?_ ?_ ?_);(·rfl);(·(refine Q8c ?_ ?_ ?_ ?_<;>(cbv;(try simp only[true_and,and_true]);(try ((repeat' apply And.intro)<;>(first|trivial|rfl|exact RowLe.rfl' _))))));(·(cbv;try rfl));(·simp)))
   | (((with_reducible refine Qtba [(1,2),(2,3),(3,4),(4,5),(5,6)] () rfl ?_ ?_ ?_ ?_);(·rfl);(·(refine Q8c ?_ ?_ ?_ ?_<;>(cbv;(try simp only[true_and,and_true]);(try ((repeat' apply And.intro)<;>(first|trivial|rfl|exact RowLe.rfl' _))))));(·(cbv;try rfl));(·simp)))
   | (((with_reducible refine Qtba [(2,3),(3,4),(4,5),(5,6)] () rfl ?_ ?_ ?_ ?_);(·rfl);(·(refine Q8c ?_ ?_ ?_ ?_<;>(cbv;(try simp only[true_and,and_true]);(try ((repeat' apply And.intro)<;>(first|trivial|rfl|exact RowLe.rfl' _))))));(·(cbv;try rfl));(·simp)))
   | (fail)
   | fail)
  all_goals rfl
end Go.Proofs.YtemnfncbgalljaaGreat
