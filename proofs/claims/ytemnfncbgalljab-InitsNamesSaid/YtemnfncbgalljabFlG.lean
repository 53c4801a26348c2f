/- Lemmas. No condition. -/
import Derived.Test.YtemnfncbgalljabFlC
namespace Go.Proofs.Ytemnfncbgalljab
open Go.RowKit
set_option linter.all false
set_option maxHeartbeats 64000000
set_option maxRecDepth 100000
section
variable {Q:E9z} {c:R9z} {w0:Base}
theorem Qnka (z:Int) {pa:Int} {un:Bool} {l b:SC} {dst:Option Nat} {k:List Item} {st:St} (hv:∀S B,Qjv S B c [.pt (.agg [.int .i64 pa,.lit un,l,b])]=some [(Qxba st.h B pa un l b).val]) (hok:Qtca st.h l b=true) (hz:∀B,fchkV (Qxba st.h B pa un l b)=z) (hz0:z≠0) (h:Goes Try.prog Q c w0 k (st.put dst (ofR (.tuple #[.int .i64 0,.int .i64 0,.int .i64 z])))):OutOk Try.prog Q c w0 (.call 13 [.pt (.agg [.int .i64 pa,.lit un,l,b])] dst k st):=
 Qqba (vs:=fun S B=>[(Qxba st.h B pa un l b).val]) hv Try.call13 (fun w S B hk hx hM=>by
  have:=Q2ma (Qxba st.h B pa un l b) w (Qfca hM hok) (by rw[hz];exact hz0)
  rw[hz] at this;exact this) h
theorem Qala (z:Int) {pa:Int} {un:Bool} {l b:SC} {dst:Option Nat} {k:List Item} {st:St} (hv:∀S B,Qjv S B c [.pt (.agg [.int .i64 pa,.lit un,l,b])]=some [(Qxba st.h B pa un l b).val]) (hok:Qtca st.h l b=true) (hz:∀B,fchkV (Qxba st.h B pa un l b)=z) (hn:∀B,(Qxba st.h B pa un l b).ln=0) (h:Goes Try.prog Q c w0 k (st.put dst (ofR (.int .i64 z)))):OutOk Try.prog Q c w0 (.call 6 [.pt (.agg [.int .i64 pa,.lit un,l,b])] dst k st):=
 Qqba (vs:=fun S B=>[(Qxba st.h B pa un l b).val]) hv Try.call6 (fun w S B hk hx hM=>by
  have:=Q2p (Qxba st.h B pa un l b) w (Qfca hM hok) (fun i hi=>by rw[hn] at hi;omega)
  rw[Qdj,hz] at this;exact this) h
end
structure Cut1 (T:Prop) where
 q:Prop
 join:q->T
theorem Q1oa (d:Nat) {P:Program} {Q:E9z} {c:R9z} {w0:Base} {f:Nat} {args:List SV} {k:List Item} {st:St} (h:OutOk P Q c w0 (.call f args (some d) k st)):OutOk P Q c w0 (.call f args (some d) k st):=h
theorem Q4na (d:Nat) {P:Program} {Q:E9z} {c:R9z} {w0:Base} {ops:Array Oper} {k:List Item} {st:St} (h:OutOk P Q c w0 (.draw d ops k st)):OutOk P Q c w0 (.draw d ops k st):=h
noncomputable def Qlma (w:World):Cut1 (Calls Try.prog 4 #[] w (Ret w (.bool true))):=by
 refine' ⟨_,fun h=>?main⟩
 case main=>
  refine Qaa (args:=[]) (c:=Qra) Try.func4 rfl (Qga _) rfl rfl ?_
  obtain ⟨_,hnd,_,hnt,_,har,_,hcm,_,hmx,_,hmn,ar01,ar12,_,hzpl,_,hzjn,_,hzup,_,hzmi,_,hzdp,hT⟩:=Qca
  subst hnd hnt har hcm hmx hmn hzpl hzjn hzup hzmi hzdp
  repeat' (first
   | (((with_reducible refine Q4na 12 ?_);(exact h)))
   | (refine gov ?_;(try simp only[ar01,ar12]))
   | ((with_reducible apply go_takeC 0 hT (g:=15) (hfun:=Try.call15));(·rfl);(·kernel_rfl);(·rfl);(·rfl);(·(intro h_;cases h_));(·kernel_rfl);(·kernel_rfl);(·kernel_rfl);(·(cbv;try rfl));(·(cbv;try rfl));(·(cbv;try rfl));(·intro wc;exact Q4ja _ wc))
   | ((with_reducible apply go_takeC 1 hT (g:=15) (hfun:=Try.call15));(·rfl);(·kernel_rfl);(·rfl);(·rfl);(·(intro h_;cases h_));(·kernel_rfl);(·kernel_rfl);(·kernel_rfl);(·(cbv;try rfl));(·(cbv;try rfl));(·(cbv;try rfl));(·intro wc;exact Q4ja _ wc))
   | ((with_reducible apply go_takeC 2 hT (g:=15) (hfun:=Try.call15));(·rfl);(·kernel_rfl);(·rfl);(·rfl);(·(intro h_;cases h_));(·kernel_rfl);(·kernel_rfl);(·kernel_rfl);(·(cbv;try rfl));(·(cbv;try rfl));(·(cbv;try rfl));(·intro wc;exact Q4ja _ wc))
   | ((with_reducible apply go_takeC 3 hT (g:=15) (hfun:=Try.call15));(·rfl);(·kernel_rfl);(·rfl);(·rfl);(·(intro h_;cases h_));(·kernel_rfl);(·kernel_rfl);(·kernel_rfl);(·(cbv;try rfl));(·(cbv;try rfl));(·(cbv;try rfl));(·intro wc;exact Q4ja _ wc))
   | ((with_reducible apply go_takeC 4 hT (g:=15) (hfun:=Try.call15));(·rfl);(·kernel_rfl);(·rfl);(·rfl);(·(intro h_;cases h_));(·kernel_rfl);(·kernel_rfl);(·kernel_rfl);(·(cbv;try rfl));(·(cbv;try rfl));(·(cbv;try rfl));(·intro wc;exact Q4ja _ wc))
   | ((with_reducible apply go_takeC 0 hT (g:=38) (hfun:=Try.call38));(·rfl);(·kernel_rfl);(·rfl);(·rfl);(·(intro h_;cases h_));(·kernel_rfl);(·kernel_rfl);(·kernel_rfl);(·(cbv;try rfl));(·(cbv;try rfl));(·(cbv;try rfl));(·intro wc;exact Q3ja _ wc))
   | ((with_reducible apply go_takeC 1 hT (g:=38) (hfun:=Try.call38));(·rfl);(·kernel_rfl);(·rfl);(·rfl);(·(intro h_;cases h_));(·kernel_rfl);(·kernel_rfl);(·kernel_rfl);(·(cbv;try rfl));(·(cbv;try rfl));(·(cbv;try rfl));(·intro wc;exact Q3ja _ wc))
   | ((with_reducible apply go_takeC 2 hT (g:=38) (hfun:=Try.call38));(·rfl);(·kernel_rfl);(·rfl);(·rfl);(·(intro h_;cases h_));(·kernel_rfl);(·kernel_rfl);(·kernel_rfl);(·(cbv;try rfl));(·(cbv;try rfl));(·(cbv;try rfl));(·intro wc;exact Q3ja _ wc))
   | ((with_reducible apply go_takeC 3 hT (g:=38) (hfun:=Try.call38));(·rfl);(·kernel_rfl);(·rfl);(·rfl);(·(intro h_;cases h_));(·kernel_rfl);(·kernel_rfl);(·kernel_rfl);(·(cbv;try rfl));(·(cbv;try rfl));(·(cbv;try rfl));(·intro wc;exact Q3ja _ wc))
   | ((with_reducible apply go_takeC 4 hT (g:=38) (hfun:=Try.call38));(·rfl);(·kernel_rfl);(·rfl);(·rfl);(·(intro h_;cases h_));(·kernel_rfl);(·kernel_rfl);(·kernel_rfl);(·(cbv;try rfl));(·(cbv;try rfl));(·(cbv;try rfl));(·intro wc;exact Q3ja _ wc))
   | ((with_reducible apply go_takeC 0 hT (g:=17) (hfun:=Try.call17));(·rfl);(·kernel_rfl);(·rfl);(·rfl);(·(intro h_;cases h_));(·kernel_rfl);(·kernel_rfl);(·kernel_rfl);(·(cbv;try rfl));(·(cbv;try rfl));(·(cbv;try rfl));(·intro wc;exact Q2ja _ _ _ _ _ _ wc))
   | ((with_reducible apply go_takeC 1 hT (g:=17) (hfun:=Try.call17));(·rfl);(·kernel_rfl);(·rfl);(·rfl);(·(intro h_;cases h_));(·kernel_rfl);(·kernel_rfl);(·kernel_rfl);(·(cbv;try rfl));(·(cbv;try rfl));(·(cbv;try rfl));(·intro wc;exact Q2ja _ _ _ _ _ _ wc))
   | ((with_reducible apply go_takeC 2 hT (g:=17) (hfun:=Try.call17));(·rfl);(·kernel_rfl);(·rfl);(·rfl);(·(intro h_;cases h_));(·kernel_rfl);(·kernel_rfl);(·kernel_rfl);(·(cbv;try rfl));(·(cbv;try rfl));(·(cbv;try rfl));(·intro wc;exact Q2ja _ _ _ _ _ _ wc))
   | ((with_reducible apply go_takeC 3 hT (g:=17) (hfun:=Try.call17));(·rfl);(·kernel_rfl);(·rfl);(·rfl);(·(intro h_;cases h_));(·kernel_rfl);(·kernel_rfl);(·kernel_rfl);(·(cbv;try rfl));(·(cbv;try rfl));(·(cbv;try rfl));(·intro wc;exact Q2ja _ _ _ _ _ _ wc))
   | ((with_reducible apply go_takeC 4 hT (g:=17) (hfun:=Try.call17));(·rfl);(·kernel_rfl);(·rfl);(·rfl);(·(intro h_;cases h_));(·kernel_rfl);(·kernel_rfl);(·kernel_rfl);(·(cbv;try rfl));(·(cbv;try rfl));(·(cbv;try rfl));(·intro wc;exact Q2ja _ _ _ _ _ _ wc))
   | refine goa ?_|refine go3 (fun hlt=>?_) (fun hge=>?_)|refine go2 (fun h=>?_) (fun h=>?_)|exact go0|refine goz ?_|refine Qvha ?_ ?_
   | (refine' Qiha Try.call15 ?_ ?_;rotate_left;(·intro wc hbc hxc;exact Q4ja _ wc))
   | (refine' Qiha Try.call38 ?_ ?_;rotate_left;(·intro wc hbc hxc;exact Q3ja _ wc))
   | (refine' Qiha Try.call17 ?_ ?_;rotate_left;(·intro wc hbc hxc;exact Q2ja _ _ _ _ _ _ wc))
   | refine Qhha Try.func16 Try.results16 Try.call16 ?_
   | refine Qhha Try.func12 Try.results12 Try.call12 ?_
   | (refine' Qiha Try.call19 ?_ ?_;rotate_left;(·intro wc hbc hxc;exact Q8ka wc))
   | (((apply Q8ja (dst:=some 42) [true,true] 2 [2,1] 0 1 0);(·(intro S B;cbv;try rfl));(·(intro B;cbv));(·kernel_rfl);(·(intro B;kernel_rfl));(·(intro B;kernel_rfl));(·(intro B;kernel_rfl))))
   | (((apply Q8ja (dst:=some 52) [true,true] 2 [2,0] 0 1 0);(·(intro S B;cbv;try rfl));(·(intro B;cbv));(·kernel_rfl);(·(intro B;kernel_rfl));(·(intro B;kernel_rfl));(·(intro B;kernel_rfl))))
   | (((apply Qdka (dst:=some 61) [true,true] 2 [2,1] 0);(·(intro S B;cbv;try rfl));(·(intro B;cbv));(·kernel_rfl);(·(intro B;kernel_rfl));(·(intro B;kernel_rfl));(·(intro B;kernel_rfl))))
   | (((apply Qdka (dst:=some 67) [true,true] 2 [2,0] 44);(·(intro S B;cbv;try rfl));(·(intro B;cbv));(·kernel_rfl);(·(intro B;kernel_rfl));(·(intro B;kernel_rfl));(·(intro B;kernel_rfl))))
   | (((apply Q8ja (dst:=some 72) [true,true] 2 [2,6] 1 0 0);(·(intro S B;cbv;try rfl));(·(intro B;cbv));(·kernel_rfl);(·(intro B;kernel_rfl));(·(intro B;kernel_rfl));(·(intro B;kernel_rfl))))
   | (((apply Qnka 8);(·(intro S B;cbv;try rfl));(·kernel_rfl);(·(intro B;cbv));(·decide)))
   | (((apply Qala 8);(·(intro S B;cbv;try rfl));(·kernel_rfl);(·(intro B;cbv));(·(intro B;rfl))))
   | refine Qhha Try.func20 Try.results20 Try.call20 ?_
   | (with_reducible apply Qqa 6)
   | (fail)
   | fail)
noncomputable def Qmma (w:World):Cut1 (Qlma w).q:=by
 refine' ⟨_,fun h=>?main⟩
 case main=>
  delta Qlma
  with_reducible refine (?_:OutOk _ _ _ _ _)
  obtain ⟨_,hnd,_,hnt,_,har,_,hcm,_,hmx,_,hmn,ar01,ar12,_,hzpl,_,hzjn,_,hzup,_,hzmi,_,hzdp,hT⟩:=Qca
  subst hnd hnt har hcm hmx hmn hzpl hzjn hzup hzmi hzdp
  repeat' (first
   | (refine gov ?_;(try simp only[ar01,ar12]))
   | ((with_reducible apply go_takeC 0 hT (g:=15) (hfun:=Try.call15));(·rfl);(·kernel_rfl);(·rfl);(·rfl);(·(intro h_;cases h_));(·kernel_rfl);(·kernel_rfl);(·kernel_rfl);(·(cbv;try rfl));(·(cbv;try rfl));(·(cbv;try rfl));(·intro wc;exact Q4ja _ wc))
   | ((with_reducible apply go_takeC 1 hT (g:=15) (hfun:=Try.call15));(·rfl);(·kernel_rfl);(·rfl);(·rfl);(·(intro h_;cases h_));(·kernel_rfl);(·kernel_rfl);(·kernel_rfl);(·(cbv;try rfl));(·(cbv;try rfl));(·(cbv;try rfl));(·intro wc;exact Q4ja _ wc))
   | ((with_reducible apply go_takeC 2 hT (g:=15) (hfun:=Try.call15));(·rfl);(·kernel_rfl);(·rfl);(·rfl);(·(intro h_;cases h_));(·kernel_rfl);(·kernel_rfl);(·kernel_rfl);(·(cbv;try rfl));(·(cbv;try rfl));(·(cbv;try rfl));(·intro wc;exact Q4ja _ wc))
   | ((with_reducible apply go_takeC 3 hT (g:=15) (hfun:=Try.call15));(·rfl);(·kernel_rfl);(·rfl);(·rfl);(·(intro h_;cases h_));(·kernel_rfl);(·kernel_rfl);(·kernel_rfl);(·(cbv;try rfl));(·(cbv;try rfl));(·(cbv;try rfl));(·intro wc;exact Q4ja _ wc))
   | ((with_reducible apply go_takeC 4 hT (g:=15) (hfun:=Try.call15));(·rfl);(·kernel_rfl);(·rfl);(·rfl);(·(intro h_;cases h_));(·kernel_rfl);(·kernel_rfl);(·kernel_rfl);(·(cbv;try rfl));(·(cbv;try rfl));(·(cbv;try rfl));(·intro wc;exact Q4ja _ wc))
   | ((with_reducible apply go_takeC 0 hT (g:=38) (hfun:=Try.call38));(·rfl);(·kernel_rfl);(·rfl);(·rfl);(·(intro h_;cases h_));(·kernel_rfl);(·kernel_rfl);(·kernel_rfl);(·(cbv;try rfl));(·(cbv;try rfl));(·(cbv;try rfl));(·intro wc;exact Q3ja _ wc))
   | ((with_reducible apply go_takeC 1 hT (g:=38) (hfun:=Try.call38));(·rfl);(·kernel_rfl);(·rfl);(·rfl);(·(intro h_;cases h_));(·kernel_rfl);(·kernel_rfl);(·kernel_rfl);(·(cbv;try rfl));(·(cbv;try rfl));(·(cbv;try rfl));(·intro wc;exact Q3ja _ wc))
   | ((with_reducible apply go_takeC 2 hT (g:=38) (hfun:=Try.call38));(·rfl);(·kernel_rfl);(·rfl);(·rfl);(·(intro h_;cases h_));(·kernel_rfl);(·kernel_rfl);(·kernel_rfl);(·(cbv;try rfl));(·(cbv;try rfl));(·(cbv;try rfl));(·intro wc;exact Q3ja _ wc))
   | ((with_reducible apply go_takeC 3 hT (g:=38) (hfun:=Try.call38));(·rfl);(·kernel_rfl);(·rfl);(·rfl);(·(intro h_;cases h_));(·kernel_rfl);(·kernel_rfl);(·kernel_rfl);(·(cbv;try rfl));(·(cbv;try rfl));(·(cbv;try rfl));(·intro wc;exact Q3ja _ wc))
   | ((with_reducible apply go_takeC 4 hT (g:=38) (hfun:=Try.call38));(·rfl);(·kernel_rfl);(·rfl);(·rfl);(·(intro h_;cases h_));(·kernel_rfl);(·kernel_rfl);(·kernel_rfl);(·(cbv;try rfl));(·(cbv;try rfl));(·(cbv;try rfl));(·intro wc;exact Q3ja _ wc))
   | ((with_reducible apply go_takeC 0 hT (g:=17) (hfun:=Try.call17));(·rfl);(·kernel_rfl);(·rfl);(·rfl);(·(intro h_;cases h_));(·kernel_rfl);(·kernel_rfl);(·kernel_rfl);(·(cbv;try rfl));(·(cbv;try rfl));(·(cbv;try rfl));(·intro wc;exact Q2ja _ _ _ _ _ _ wc))
   | ((with_reducible apply go_takeC 1 hT (g:=17) (hfun:=Try.call17));(·rfl);(·kernel_rfl);(·rfl);(·rfl);(·(intro h_;cases h_));(·kernel_rfl);(·kernel_rfl);(·kernel_rfl);(·(cbv;try rfl));(·(cbv;try rfl));(·(cbv;try rfl));(·intro wc;exact Q2ja _ _ _ _ _ _ wc))
   | ((with_reducible apply go_takeC 2 hT (g:=17) (hfun:=Try.call17));(·rfl);(·kernel_rfl);(·rfl);(·rfl);(·(intro h_;cases h_));(·kernel_rfl);(·kernel_rfl);(·kernel_rfl);(·(cbv;try rfl));(·(cbv;try rfl));(·(cbv;try rfl));(·intro wc;exact Q2ja _ _ _ _ _ _ wc))
   | ((with_reducible apply go_takeC 3 hT (g:=17) (hfun:=Try.call17));(·rfl);(·kernel_rfl);(·rfl);(·rfl);(·(intro h_;cases h_));(·kernel_rfl);(·kernel_rfl);(·kernel_rfl);(·(cbv;try rfl));(·(cbv;try rfl));(·(cbv;try rfl));(·intro wc;exact Q2ja _ _ _ _ _ _ wc))
   | ((with_reducible apply go_takeC 4 hT (g:=17) (hfun:=Try.call17));(·rfl);(·kernel_rfl);(·rfl);(·rfl);(·(intro h_;cases h_));(·kernel_rfl);(·kernel_rfl);(·kernel_rfl);(·(cbv;try rfl));(·(cbv;try rfl));(·(cbv;try rfl));(·intro wc;exact Q2ja _ _ _ _ _ _ wc))
   | refine goa ?_|refine go3 (fun hlt=>?_) (fun hge=>?_)|refine go2 (fun h=>?_) (fun h=>?_)|exact go0|refine goz ?_|refine Qvha ?_ ?_
   | (((with_reducible refine Q1oa 97 ?_);(exact h)))
   | (refine' Qiha Try.call15 ?_ ?_;rotate_left;(·intro wc hbc hxc;exact Q4ja _ wc))
   | (refine' Qiha Try.call38 ?_ ?_;rotate_left;(·intro wc hbc hxc;exact Q3ja _ wc))
   | (refine' Qiha Try.call17 ?_ ?_;rotate_left;(·intro wc hbc hxc;exact Q2ja _ _ _ _ _ _ wc))
   | refine Qhha Try.func16 Try.results16 Try.call16 ?_
   | refine Qhha Try.func12 Try.results12 Try.call12 ?_
   | (refine' Qiha Try.call19 ?_ ?_;rotate_left;(·intro wc hbc hxc;exact Q8ka wc))
   | (((apply Q8ja (dst:=some 91) [true,true,true,true] 4 [0,0,1,0] 3 0 0);(·(intro S B;cbv;try rfl));(·(intro B;cbv));(·kernel_rfl);(·(intro B;kernel_rfl));(·(intro B;kernel_rfl));(·(intro B;kernel_rfl))))
   | (((apply Qnka 8);(·(intro S B;cbv;try rfl));(·kernel_rfl);(·(intro B;cbv));(·decide)))
   | (((apply Qala 8);(·(intro S B;cbv;try rfl));(·kernel_rfl);(·(intro B;cbv));(·(intro B;rfl))))
   | refine Qhha Try.func20 Try.results20 Try.call20 ?_
   | (with_reducible apply Qqa 6)
   | (fail)
   | fail)
theorem Qaoa (w:World):(Qmma w).q:=by
 delta Qmma
 with_reducible refine (?_:OutOk _ _ _ _ _)
 obtain ⟨_,hnd,_,hnt,_,har,_,hcm,_,hmx,_,hmn,ar01,ar12,_,hzpl,_,hzjn,_,hzup,_,hzmi,_,hzdp,hT⟩:=Qca
 subst hnd hnt har hcm hmx hmn hzpl hzjn hzup hzmi hzdp
 repeat' (first
  | (refine gov ?_;(try simp only[ar01,ar12]))
  | ((with_reducible apply go_takeC 0 hT (g:=15) (hfun:=Try.call15));(·rfl);(·kernel_rfl);(·rfl);(·rfl);(·(intro h_;cases h_));(·kernel_rfl);(·kernel_rfl);(·kernel_rfl);(·(cbv;try rfl));(·(cbv;try rfl));(·(cbv;try rfl));(·intro wc;exact Q4ja _ wc))
  | ((with_reducible apply go_takeC 1 hT (g:=15) (hfun:=Try.call15));(·rfl);(·kernel_rfl);(·rfl);(·rfl);(·(intro h_;cases h_));(·kernel_rfl);(·kernel_rfl);(·kernel_rfl);(·(cbv;try rfl));(·(cbv;try rfl));(·(cbv;try rfl));(·intro wc;exact Q4ja _ wc))
  | ((with_reducible apply go_takeC 2 hT (g:=15) (hfun:=Try.call15));(·rfl);(·kernel_rfl);(·rfl);(·rfl);(·(intro h_;cases h_));(·kernel_rfl);(·kernel_rfl);(·kernel_rfl);(·(cbv;try rfl));(·(cbv;try rfl));(·(cbv;try rfl));(·intro wc;exact Q4ja _ wc))
  | ((with_reducible apply go_takeC 3 hT (g:=15) (hfun:=Try.call15));(·rfl);(·kernel_rfl);(·rfl);(·rfl);(·(intro h_;cases h_));(·kernel_rfl);(·kernel_rfl);(·kernel_rfl);(·(cbv;try rfl));(·(cbv;try rfl));(·(cbv;try rfl));(·intro wc;exact Q4ja _ wc))
  | ((with_reducible apply go_takeC 4 hT (g:=15) (hfun:=Try.call15));(·rfl);(·kernel_rfl);(·rfl);(·rfl);(·(intro h_;cases h_));(·kernel_rfl);(·kernel_rfl);(·kernel_rfl);(·(cbv;try rfl));(·(cbv;try rfl));(·(cbv;try rfl));(·intro wc;exact Q4ja _ wc))
  | ((with_reducible apply go_takeC 0 hT (g:=38) (hfun:=Try.call38));(·rfl);(·kernel_rfl);(·rfl);(·rfl);(·(intro h_;cases h_));(·kernel_rfl);(·kernel_rfl);(·kernel_rfl);(·(cbv;try rfl));(·(cbv;try rfl));(·(cbv;try rfl));(·intro wc;exact Q3ja _ wc))
  | ((with_reducible apply go_takeC 1 hT (g:=38) (hfun:=Try.call38));(·rfl);(·kernel_rfl);(·rfl);(·rfl);(·(intro h_;cases h_));(·kernel_rfl);(·kernel_rfl);(·kernel_rfl);(·(cbv;try rfl));(·(cbv;try rfl));(·(cbv;try rfl));(·intro wc;exact Q3ja _ wc))
  | ((with_reducible apply go_takeC 2 hT (g:=38) (hfun:=Try.call38));(·rfl);(·kernel_rfl);(·rfl);(·rfl);(·(intro h_;cases h_));(·kernel_rfl);(·kernel_rfl);(·kernel_rfl);(·(cbv;try rfl));(·(cbv;try rfl));(·(cbv;try rfl));(·intro wc;exact Q3ja _ wc))
  | ((with_reducible apply go_takeC 3 hT (g:=38) (hfun:=Try.call38));(·rfl);(·kernel_rfl);(·rfl);(·rfl);(·(intro h_;cases h_));(·kernel_rfl);(·kernel_rfl);(·kernel_rfl);(·(cbv;try rfl));(·(cbv;try rfl));(·(cbv;try rfl));(·intro wc;exact Q3ja _ wc))
  | ((with_reducible apply go_takeC 4 hT (g:=38) (hfun:=Try.call38));(·rfl);(·kernel_rfl);(·rfl);(·rfl);(·(intro h_;cases h_));(·kernel_rfl);(·kernel_rfl);(·kernel_rfl);(·(cbv;try rfl));(·(cbv;try rfl));(·(cbv;try rfl));(·intro wc;exact Q3ja _ wc))
  | ((with_reducible apply go_takeC 0 hT (g:=17) (hfun:=Try.call17));(·rfl);(·kernel_rfl);(·rfl);(·rfl);(·(intro h_;cases h_));(·kernel_rfl);(·kernel_rfl);(·kernel_rfl);(·(cbv;try rfl));(·(cbv;try rfl));(·(cbv;try rfl));(·intro wc;exact Q2ja _ _ _ _ _ _ wc))
  | ((with_reducible apply go_takeC 1 hT (g:=17) (hfun:=Try.call17));(·rfl);(·kernel_rfl);(·rfl);(·rfl);(·(intro h_;cases h_));(·kernel_rfl);(·kernel_rfl);(·kernel_rfl);(·(cbv;try rfl));(·(cbv;try rfl));(·(cbv;try rfl));(·intro wc;exact Q2ja _ _ _ _ _ _ wc))
  | ((with_reducible apply go_takeC 2 hT (g:=17) (hfun:=Try.call17));(·rfl);(·kernel_rfl);(·rfl);(·rfl);(·(intro h_;cases h_));(·kernel_rfl);(·kernel_rfl);(·kernel_rfl);(·(cbv;try rfl));(·(cbv;try rfl));(·(cbv;try rfl));(·intro wc;exact Q2ja _ _ _ _ _ _ wc))
  | ((with_reducible apply go_takeC 3 hT (g:=17) (hfun:=Try.call17));(·rfl);(·kernel_rfl);(·rfl);(·rfl);(·(intro h_;cases h_));(·kernel_rfl);(·kernel_rfl);(·kernel_rfl);(·(cbv;try rfl));(·(cbv;try rfl));(·(cbv;try rfl));(·intro wc;exact Q2ja _ _ _ _ _ _ wc))
  | ((with_reducible apply go_takeC 4 hT (g:=17) (hfun:=Try.call17));(·rfl);(·kernel_rfl);(·rfl);(·rfl);(·(intro h_;cases h_));(·kernel_rfl);(·kernel_rfl);(·kernel_rfl);(·(cbv;try rfl));(·(cbv;try rfl));(·(cbv;try rfl));(·intro wc;exact Q2ja _ _ _ _ _ _ wc))
  | refine goa ?_|refine go3 (fun hlt=>?_) (fun hge=>?_)|refine go2 (fun h=>?_) (fun h=>?_)|exact go0|refine goz ?_|refine Qvha ?_ ?_
  | (refine' Qiha Try.call15 ?_ ?_;rotate_left;(·intro wc hbc hxc;exact Q4ja _ wc))
  | (refine' Qiha Try.call38 ?_ ?_;rotate_left;(·intro wc hbc hxc;exact Q3ja _ wc))
  | (refine' Qiha Try.call17 ?_ ?_;rotate_left;(·intro wc hbc hxc;exact Q2ja _ _ _ _ _ _ wc))
  | refine Qhha Try.func16 Try.results16 Try.call16 ?_
  | refine Qhha Try.func12 Try.results12 Try.call12 ?_
  | (refine' Qiha Try.call19 ?_ ?_;rotate_left;(·intro wc hbc hxc;exact Q8ka wc))
  | (((apply Qvka (dst:=some 97) [true,true,true,true] 4 [0,0,1,0]);(·(intro S B;cbv;try rfl));(·(intro B;cbv));(·kernel_rfl);(·(intro B;kernel_rfl));(·(intro B;kernel_rfl))))
  | (((apply Qdka (dst:=some 106) [true,true,true,true] 4 [0,0,1,1] 0);(·(intro S B;cbv;try rfl));(·(intro B;cbv));(·kernel_rfl);(·(intro B;kernel_rfl));(·(intro B;kernel_rfl));(·(intro B;kernel_rfl))))
  | (((apply Qvka (dst:=some 114) [true,false,false,false] 4 [0,7,7,7]);(·(intro S B;cbv;try rfl));(·(intro B;cbv));(·kernel_rfl);(·(intro B;kernel_rfl));(·(intro B;kernel_rfl))))
  | (((apply Qnka 8);(·(intro S B;cbv;try rfl));(·kernel_rfl);(·(intro B;cbv));(·decide)))
  | (((apply Qala 8);(·(intro S B;cbv;try rfl));(·kernel_rfl);(·(intro B;cbv));(·(intro B;rfl))))
  | refine Qhha Try.func20 Try.results20 Try.call20 ?_
  | (with_reducible apply Qqa 6)
  | (fail)
  | fail)
 all_goals rfl
theorem Qjoa (w:World):
 Calls Try.prog 4 #[] w (Ret w (.bool true)):=(Qlma w).join ((Qmma w).join (Qaoa w))
end Go.Proofs.Ytemnfncbgalljab
