/- Lemmas. No condition. -/
import Derived.Test.YtemnfncbgalljabFlB
import Derived.Test.YtemnfncbgalljabSxEe
namespace Go.Proofs.Ytemnfncbgalljab
open Go.RowKit
set_option linter.all false
set_option maxHeartbeats 64000000
set_option maxRecDepth 100000
section
variable {Q:E9z} {c:R9z} {w0:Base}
theorem Qvka (RL:List Bool) (N:Nat) (M:List Nat) {pa:Int} {un:Bool} {l b:SC} {dst:Option Nat} {k:List Item} {st:St} (hv:∀S B,Qjv S B c [.pt (.agg [.int .i64 pa,.lit un,l,b])]=some [(Qxba st.h B pa un l b).val]) (hN:∀B,stN (Qxba st.h B pa un l b).sn (Qxba st.h B pa un l b).bn=N) (hok:Qtca st.h l b=true) (hO:∀B,fchkV (Qxba st.h B pa un l b)=0)
 (hm:∀B,Qbka (Qxba st.h B pa un l b) RL M=true)
 (h:Goes Try.prog Q c w0 k (({ st with r:=st.r++Qjq [Qapa N M] }:St).put dst ((SV.tup [.one (.rs 0),.one (.int .i64 0)]).shR (Qyn st.r)))):OutOk Try.prog Q c w0 (.call 18 [.pt (.agg [.int .i64 pa,.lit un,l,b])] dst k st):=
 Qaia (vs:=fun S B=>[(Qxba st.h B pa un l b).val]) hv Try.call18 (fun w S B hk hx' hM=>Qooa hM pa un l b hok (hO B) RL N M (hN B) (hm B)) rfl h
theorem Q8ja (RL:List Bool) (N:Nat) (M:List Nat) (x:Nat) (y z:Int) {pa:Int} {un:Bool} {l b:SC} {dst:Option Nat} {k:List Item} {st:St} (hv:∀S B,Qjv S B c [.pt (.agg [.int .i64 pa,.lit un,l,b])]=some [(Qxba st.h B pa un l b).val]) (hN:∀B,stN (Qxba st.h B pa un l b).sn (Qxba st.h B pa un l b).bn=N) (hok:Qtca st.h l b=true) (hO:∀B,fchkV (Qxba st.h B pa un l b)=0)
 (hm:∀B,Qbka (Qxba st.h B pa un l b) RL M=true) (hx:∀B,Qmka (Qxba st.h B pa un l b) M=(x,y,z))
 (h:Goes Try.prog Q c w0 k (st.put dst (ofR (.tuple #[.int .i64 (.ofNat x),.int .i64 y,.int .i64 z])))):OutOk Try.prog Q c w0 (.call 13 [.pt (.agg [.int .i64 pa,.lit un,l,b])] dst k st):=
 Qqba (vs:=fun S B=>[(Qxba st.h B pa un l b).val]) hv Try.call13 (fun w S B hk hx' hM=>Q3ma hM pa un l b hok (hO B) RL M (hm B) x y z (hx B)) h
theorem Qdka (RL:List Bool) (N:Nat) (M:List Nat) (z:Int) {pa:Int} {un:Bool} {l b:SC} {dst:Option Nat} {k:List Item} {st:St} (hv:∀S B,Qjv S B c [.pt (.agg [.int .i64 pa,.lit un,l,b])]=some [(Qxba st.h B pa un l b).val]) (hN:∀B,stN (Qxba st.h B pa un l b).sn (Qxba st.h B pa un l b).bn=N) (hok:Qtca st.h l b=true) (hO:∀B,fchkV (Qxba st.h B pa un l b)=0)
 (hm:∀B,Qbka (Qxba st.h B pa un l b) RL M=true) (hx:∀B,(if (Qmka (Qxba st.h B pa un l b) M).2.2=6 then (0:Int) else 44)=z)
 (h:Goes Try.prog Q c w0 k (st.put dst (ofR (.int .i64 z)))):OutOk Try.prog Q c w0 (.call 14 [.pt (.agg [.int .i64 pa,.lit un,l,b])] dst k st):=
 Qqba (vs:=fun S B=>[(Qxba st.h B pa un l b).val]) hv Try.call14 (fun w S B hk hx' hM=>Qqna hM pa un l b hok (hO B) RL M (hm B) z (hx B)) h
end
theorem Q4ja (n:Int) (w:World):Calls Try.prog 15 #[.int .i64 n] w (Ret w (GOper.val ⟨1,n,⟨0,false,0⟩⟩)):=by
 refine Qaa (args:=[.pt (.one (.int .i64 n))]) (c:=Qra) Try.func15 rfl (Qga _) rfl rfl ?_
 obtain ⟨_,_,_,hnt,_,har,_,hcm,_,_,_,_,ar01,ar12,_,hzpl,_,_,_,_,_,_,_,_,hT⟩:=Qca
 repeat' (first
  | refine goa ?_|refine go3 (fun hlt=>?_) (fun hge=>?_)|refine go2 (fun h=>?_) (fun h=>?_)|exact go0|refine goz ?_|refine Qvha ?_ ?_
  | fail)
 all_goals rfl
theorem Q3ja (n:Int) (w:World):Calls Try.prog 38 #[.int .i64 n] w (Ret w (GOper.val ⟨2,0,⟨n,false,0⟩⟩)):=by
 refine Qaa (args:=[.pt (.one (.int .i64 n))]) (c:=Qra) Try.func38 rfl (Qga _) rfl rfl ?_
 obtain ⟨_,_,_,hnt,_,har,_,hcm,_,_,_,_,ar01,ar12,_,hzpl,_,_,_,_,_,_,_,_,hT⟩:=Qca
 repeat' (first
  | refine goa ?_|refine go3 (fun hlt=>?_) (fun hge=>?_)|refine go2 (fun h=>?_) (fun h=>?_)|exact go0|refine goz ?_|refine Qvha ?_ ?_
  | fail)
 all_goals rfl
theorem Q2ja (n ak an al af:Int) (ad:Bool) (w:World):Calls Try.prog 17 #[.int .i64 n,.agg #[.int .u8 ak,.int .i64 an,.int .i64 al,.bool ad,.int .u8 af]] w (Ret w (GStmt.val ⟨1,⟨n,false,0⟩,⟨1,0,0,⟨ak,an,⟨al,ad,af⟩⟩,.zero,.zero⟩,.zero,0⟩)):=by
 refine Qaa (args:=[.pt (.one (.int .i64 n)),.pt (.agg [.int .u8 ak,.int .i64 an,.int .i64 al,.bool ad,.int .u8 af])]) (c:=Qra) Try.func17 rfl (Qga _) rfl rfl ?_
 obtain ⟨_,_,_,hnt,_,har,_,hcm,_,_,_,_,ar01,ar12,_,hzpl,_,_,_,_,_,_,_,_,hT⟩:=Qca
 repeat' (first
  | refine goa ?_|refine go3 (fun hlt=>?_) (fun hge=>?_)|refine go2 (fun h=>?_) (fun h=>?_)|exact go0|refine goz ?_|refine Qvha ?_ ?_
  | fail)
 all_goals rfl
theorem Qhpa (d:Nat) {P:Program} {Q:E9z} {c:R9z} {w0:Base} {ops:Array Oper} {k:List Item} {st:St} (h:OutOk P Q c w0 (.draw d ops k st)):OutOk P Q c w0 (.draw d ops k st):=h
theorem Q8ka (w:World):
 Calls Try.prog 19 #[] w (Ret w (.bool true)):=by
 refine Qaa (args:=[]) (c:=Qra) Try.func19 rfl (Qga _) rfl rfl ?_
 obtain ⟨_,hnd,_,hnt,_,har,_,hcm,_,hmx,_,hmn,ar01,ar12,_,hzpl,_,hzjn,_,hzup,_,hzmi,_,hzdp,hT⟩:=Qca
 subst hnd hnt har hcm hmx hmn hzpl hzjn hzup hzmi hzdp
 repeat' (first
  | refine goa ?_|refine go3 (fun hlt=>?_) (fun hge=>?_)|refine go2 (fun h=>?_) (fun h=>?_)|exact go0|refine gof ?_|refine gob ?_|refine Qvha ?_ ?_
  | fail)
 with_reducible refine Q4d (by kernel_rfl) ?_
 refine Q9d 1 0 rfl rfl rfl rfl rfl trivial rfl (Qlba 0) (Qlca 0) (fun a1 _=>?_)
 refine Q5ba (zs9 [13,7]) [(2,.pt (.one (.ptr 5 0)))] [] [some [.int .u8 1,.int .i64 1,.bool false,.int .u8 0,.int .u8 1,.int .u8 0,.int .u8 0,.int .u8 1,.int .i64 3,.int .i64 0,.bool false,.int .u8 0,.int .u8 0,.int .i64 0,.int .i64 0,.bool false,.int .u8 0,.int .i64 0,.bool false,.int .u8 0,.int .u8 0,.int .i64 0,.int .i64 0,.bool false,.int .u8 0,.int .i64 0,.int .u8 1,.int .i64 0,.bool false,.int .u8 0,.int .u8 1,.int .u8 0,.int .u8 0,.int .u8 2,.int .i64 0,.int .i64 1,.bool false,.int .u8 0,.int .u8 0,.int .i64 0,.int .i64 0,.bool false,.int .u8 0,.int .i64 0,.bool false,.int .u8 0,.int .u8 0,.int .i64 0,.int .i64 0,.bool false,.int .u8 0,.int .i64 0,.int .u8 3,.int .i64 0,.bool false,.int .u8 0,.int .u8 0,.int .u8 0,.int .u8 0,.int .u8 0,.int .i64 0,.int .i64 0,.bool false,.int .u8 0,.int .u8 0,.int .i64 0,.int .i64 0,.bool false,.int .u8 0,.int .i64 0,.bool false,.int .u8 0,.int .u8 0,.int .i64 0,.int .i64 0,.bool false,.int .u8 0,.int .i64 1],none,some [.int .u8 1,.int .u8 0,.int .u8 1,.int .u8 0,.int .u8 1,.int .u8 0],some [.sl 1 0 3 3,.int .u8 3,.int .u8 0,.int .i64 0,.int .i64 0,.bool false,.int .u8 0,.int .i64 0,.int .i64 0,.int .i64 0,.val (.slice none 0 0),.int .i64 0,.bool false,.int .u8 0],some [.int .i64 0,.lit false,.sl 3 0 3 3,.sl 4 0 1 1]] rfl ?_ ?_
 all_goals
  repeat' (first
   | (((with_reducible refine Qhpa 5 ?_);(with_reducible refine Q4d (by kernel_rfl) ?_);(refine Q5ba (zs9 [31,9]) [(8,.pt (.one (.ptr 10 0)))] [] [some [.int .u8 1,.int .i64 1,.bool false,.int .u8 0,.int .u8 1,.int .u8 0,.int .u8 0,.int .u8 1,.int .i64 3,.int .i64 0,.bool false,.int .u8 0,.int .u8 0,.int .i64 0,.int .i64 0,.bool false,.int .u8 0,.int .i64 0,.bool false,.int .u8 0,.int .u8 0,.int .i64 0,.int .i64 0,.bool false,.int .u8 0,.int .i64 0,.int .u8 1,.int .i64 0,.bool false,.int .u8 0,.int .u8 1,.int .u8 0,.int .u8 0,.int .u8 2,.int .i64 0,.int .i64 1,.bool false,.int .u8 0,.int .u8 0,.int .i64 0,.int .i64 0,.bool false,.int .u8 0,.int .i64 0,.bool false,.int .u8 0,.int .u8 0,.int .i64 0,.int .i64 0,.bool false,.int .u8 0,.int .i64 0,.int .u8 3,.int .i64 0,.bool false,.int .u8 0,.int .u8 0,.int .u8 0,.int .u8 0,.int .u8 0,.int .i64 0,.int .i64 0,.bool false,.int .u8 0,.int .u8 0,.int .i64 0,.int .i64 0,.bool false,.int .u8 0,.int .i64 0,.bool false,.int .u8 0,.int .u8 0,.int .i64 0,.int .i64 0,.bool false,.int .u8 0,.int .i64 1,.int .u8 2,.int .i64 0,.bool false,.int .u8 0,.int .u8 0,.int .u8 0,.int .u8 0,.int .u8 0,.int .i64 0,.int .i64 0,.bool false,.int .u8 0,.int .u8 0,.int .i64 0,.int .i64 0,.bool false,.int .u8 0,.int .i64 0,.bool false,.int .u8 0,.int .u8 2,.int .i64 0,.int .i64 1,.bool false,.int .u8 0,.int .i64 0],none,some [.int .u8 1,.int .u8 0,.int .u8 1,.int .u8 0,.int .u8 1,.int .u8 0],some [.sl 6 0 4 4,.int .u8 3,.int .u8 0,.int .i64 0,.int .i64 0,.bool false,.int .u8 0,.int .i64 0,.int .i64 0,.int .i64 0,.val (.slice none 0 0),.int .i64 0,.bool false,.int .u8 0],some [.int .i64 0,.lit false,.sl 8 0 3 3,.sl 9 0 1 1]] rfl ?_ ?_)))
   | (refine gov ?_;(try simp only[ar01,ar12]))
   | ((with_reducible apply go_takeC 0 hT (g:=15) (hfun:=Try.call15));(·rfl);(·kernel_rfl);(·rfl);(·rfl);(·(intro h_;cases h_));(·kernel_rfl);(·kernel_rfl);(·kernel_rfl);(·(cbv;try rfl));(·(cbv;try rfl));(·(cbv;try rfl));(·intro wc;exact Q4ja _ wc))
   | ((with_reducible apply go_takeC 1 hT (g:=15) (hfun:=Try.call15));(·rfl);(·kernel_rfl);(·rfl);(·rfl);(·(intro h_;cases h_));(·kernel_rfl);(·kernel_rfl);(·kernel_rfl);(·(cbv;try rfl));(·(cbv;try rfl));(·(cbv;try rfl));(·intro wc;exact Q4ja _ wc))
   | ((with_reducible apply go_takeC 2 hT (g:=15) (hfun:=Try.call15));(·rfl);(·kernel_rfl);(·rfl);(·rfl);(·(intro h_;cases h_));(·kernel_rfl);(·kernel_rfl);(·kernel_rfl);(·(cbv;try rfl));(·(cbv;try rfl));(·(cbv;try rfl));(·intro wc;exact Q4ja _ wc))
   | ((with_reducible apply go_takeC 3 hT (g:=15) (hfun:=Try.call15));(·rfl);(·kernel_rfl);(·rfl);(·rfl);(·(intro h_;cases h_));(·kernel_rfl);(·kernel_rfl);(·kernel_rfl);(·(cbv;try rfl));(·(cbv;try rfl));(·(cbv;try rfl));(·intro wc;exact Q4ja _ wc))
   | ((with_reducible apply go_takeC 4 hT (g:=15) (hfun:=Try.call15));(·rfl);(·kernel_rfl);(·rfl);(·rfl);(·(intro h_;cases h_));(·kernel_rfl);(·kernel_rfl);(·kernel_rfl);(·(cbv;try rfl));(·(cbv;try rfl));(·(cbv;try rfl));(·intro wc;exact Q4ja _ wc))
   | ((with_reducible apply go_takeC 0 hT (g:=38) (hfun:=Try.call38));(·rfl);(·kernel_rfl);(·rfl);(·rfl);(·(intro h_;cases h_));(·kernel_rfl);(·kernel_rfl);(·kernel_rfl);(·(cbv;try rfl));(·(cbv;try rfl));(·(cbv;try rfl));(·intro wc;exact Q3ja _ wc))
   | ((with_reducible apply go_takeC 1 hT (g:=38) (hfun:=Try.call38));(·rfl);(·kernel_rfl);(·rfl);(·rfl);(·(intro h_;cases h_));(·kernel_rfl);(·kernel_rfl);(·kernel_rfl);(·(cbv;try rfl));(·(cbv;try rfl));(·(cbv;try rfl));(·intro wc;exact Q3ja _ wc))
   | ((with_reducible apply go_takeC 2 hT (g:=38) (hfun:=Try.call38));(·rfl);(·kernel_rfl);(·rfl);(·rfl);(·(intro h_;cases h_));(·kernel_rfl);(·kernel_rfl);(·kernel_rfl);(·(cbv;try rfl));(·(cbv;try rfl));(·(cbv;try rfl));(·intro wc;exact Q3ja _ wc))
   | ((with_reducible apply go_takeC 3 hT (g:=38) (hfun:=Try.call38));(·rfl);(·kernel_rfl);(·rfl);(·rfl);(·(intro h_;cases h_));(·kernel_rfl);(·kernel_rfl);(·kernel_rfl);(·(cbv;try rfl));(·(cbv;try rfl));(·(cbv;try rfl));(·intro wc;exact Q3ja _ wc))
   | ((with_reducible apply go_takeC 4 hT (g:=38) (hfun:=Try.call38));(·rfl);(·kernel_rfl);(·rfl);(·rfl);(·(intro h_;cases h_));(·kernel_rfl);(·kernel_rfl);(·kernel_rfl);(·(cbv;try rfl));(·(cbv;try rfl));(·(cbv;try rfl));(·intro wc;exact Q3ja _ wc))
   | ((with_reducible apply go_takeC 0 hT (g:=17) (hfun:=Try.call17));(·rfl);(·kernel_rfl);(·rfl);(·rfl);(·(intro h_;cases h_));(·kernel_rfl);(·kernel_rfl);(·kernel_rfl);(·(cbv;try rfl));(·(cbv;try rfl));(·(cbv;try rfl));(·intro wc;exact Q2ja _ _ _ _ _ _ wc))
   | ((with_reducible apply go_takeC 1 hT (g:=17) (hfun:=Try.call17));(·rfl);(·kernel_rfl);(·rfl);(·rfl);(·(intro h_;cases h_));(·kernel_rfl);(·kernel_rfl);(·kernel_rfl);(·(cbv;try rfl));(·(cbv;try rfl));(·(cbv;try rfl));(·intro wc;exact Q2ja _ _ _ _ _ _ wc))
   | ((with_reducible apply go_takeC 2 hT (g:=17) (hfun:=Try.call17));(·rfl);(·kernel_rfl);(·rfl);(·rfl);(·(intro h_;cases h_));(·kernel_rfl);(·kernel_rfl);(·kernel_rfl);(·(cbv;try rfl));(·(cbv;try rfl));(·(cbv;try rfl));(·intro wc;exact Q2ja _ _ _ _ _ _ wc))
   | ((with_reducible apply go_takeC 3 hT (g:=17) (hfun:=Try.call17));(·rfl);(·kernel_rfl);(·rfl);(·rfl);(·(intro h_;cases h_));(·kernel_rfl);(·kernel_rfl);(·kernel_rfl);(·(cbv;try rfl));(·(cbv;try rfl));(·(cbv;try rfl));(·intro wc;exact Q2ja _ _ _ _ _ _ wc))
   | ((with_reducible apply go_takeC 4 hT (g:=17) (hfun:=Try.call17));(·rfl);(·kernel_rfl);(·rfl);(·rfl);(·(intro h_;cases h_));(·kernel_rfl);(·kernel_rfl);(·kernel_rfl);(·(cbv;try rfl));(·(cbv;try rfl));(·(cbv;try rfl));(·intro wc;exact Q2ja _ _ _ _ _ _ wc))
   | refine goa ?_|refine go3 (fun hlt=>?_) (fun hge=>?_)|refine go2 (fun h=>?_) (fun h=>?_)|exact go0|refine goz ?_|refine Qvha ?_ ?_
   | (refine' Qiha Try.call15 ?_ ?_;rotate_left;(·intro wc hbc hxc;exact Q4ja _ wc))
   | (refine' Qiha Try.call38 ?_ ?_;rotate_left;(·intro wc hbc hxc;exact Q3ja _ wc))
   | (refine' Qiha Try.call17 ?_ ?_;rotate_left;(·intro wc hbc hxc;exact Q2ja _ _ _ _ _ _ wc))
   | refine Qhha Try.func16 Try.results16 Try.call16 ?_
   | (((apply Qvka (dst:=some 22) [true,true,true,true] 4 [0,2,3,1]);(·(intro S B;cbv;try rfl));(·(intro B;cbv));(·kernel_rfl);(·(intro B;kernel_rfl));(·(intro B;kernel_rfl))))
   | (((apply Q8ja (dst:=some 27) [true,true,true,true] 4 [0,2,3,1] 0 0 6);(·(intro S B;cbv;try rfl));(·(intro B;cbv));(·kernel_rfl);(·(intro B;kernel_rfl));(·(intro B;kernel_rfl));(·(intro B;kernel_rfl))))
   | (((apply Q8ja (dst:=some 42) [true,true,true,true,true] 5 [0,2,3,1,1] 3 1 0);(·(intro S B;cbv;try rfl));(·(intro B;cbv));(·kernel_rfl);(·(intro B;kernel_rfl));(·(intro B;kernel_rfl));(·(intro B;kernel_rfl))))
   | (((apply Qdka (dst:=some 59) [true,true,true,true] 4 [0,2,3,1] 0);(·(intro S B;cbv;try rfl));(·(intro B;cbv));(·kernel_rfl);(·(intro B;kernel_rfl));(·(intro B;kernel_rfl));(·(intro B;kernel_rfl))))
   | (((apply Qdka (dst:=some 76) [true,true,true,true,true] 5 [0,2,3,1,1] 44);(·(intro S B;cbv;try rfl));(·(intro B;cbv));(·kernel_rfl);(·(intro B;kernel_rfl));(·(intro B;kernel_rfl));(·(intro B;kernel_rfl))))
   | refine Qhha Try.func20 Try.results20 Try.call20 ?_
   | (with_reducible apply Qqa 6)
   | (((with_reducible refine Qtba [] () rfl ?_ ?_ ?_ ?_);(·rfl);(·(refine Q8c ?_ ?_ ?_ ?_<;>(cbv;(try simp only[true_and,and_true]);(try ((repeat' apply And.intro)<;>(first|trivial|rfl|exact RowLe.rfl' _))))));(·(cbv;try rfl));(·simp)))
   | (((with_reducible refine Qtba [(1,2),(2,3),(3,4),(4,5)] () rfl ?_ ?_ ?_ ?_);(·rfl);(·(refine Q8c ?_ ?_ ?_ ?_<;>(cbv;(try simp only[true_and,and_true]);(try ((repeat' apply And.intro)<;>(first|trivial|rfl|exact RowLe.rfl' _))))));(·(cbv;try rfl));(·simp)))
   | (((with_reducible refine Qtba [(2,3),(3,4),(4,5)] () rfl ?_ ?_ ?_ ?_);(·rfl);(·(refine Q8c ?_ ?_ ?_ ?_<;>(cbv;(try simp only[true_and,and_true]);(try ((repeat' apply And.intro)<;>(first|trivial|rfl|exact RowLe.rfl' _))))));(·(cbv;try rfl));(·simp)))
   | (((with_reducible refine Qtba [(6,7),(7,8),(8,9),(9,10)] () rfl ?_ ?_ ?_ ?_);(·rfl);(·(refine Q8c ?_ ?_ ?_ ?_<;>(cbv;(try simp only[true_and,and_true]);(try ((repeat' apply And.intro)<;>(first|trivial|rfl|exact RowLe.rfl' _))))));(·(cbv;try rfl));(·simp)))
   | (((with_reducible refine Qtba [(7,8),(8,9),(9,10)] () rfl ?_ ?_ ?_ ?_);(·rfl);(·(refine Q8c ?_ ?_ ?_ ?_<;>(cbv;(try simp only[true_and,and_true]);(try ((repeat' apply And.intro)<;>(first|trivial|rfl|exact RowLe.rfl' _))))));(·(cbv;try rfl));(·simp)))
   | (fail)
   | fail)
 all_goals rfl
end Go.Proofs.Ytemnfncbgalljab
