/- Lemmas. No condition. -/
import Derived.Test.YtemnfncbgalljabSvA
import Derived.Test.YtemnfncbgalljabGrH
namespace Go.Proofs.Ytemnfncbgalljab
open Go.RowKit
set_option linter.all false
set_option maxRecDepth 100000
set_option maxHeartbeats 64000000
theorem Qwla (L:List (Nat×Nat)):Qic [ptR L]:=⟨fun _ _=>rfl,trivial⟩
theorem pointsN (F:GFun) (w:World) (hF:F.At w) (hO:F.Ok):
 Calls Try.prog 26 #[F.val] w (RetR w (Qwa F) (.tup [.one (.rs 0),.one (.int .i64 0)]) [ptR (Qgb F.sn F.bn)]):=by
 have h:=Qty F w hF hO.small hO.chk
 have hR:ptR (Qgb F.sn F.bn)=⟨stN F.sn F.bn,2,fun j=>[.int .i64 (.ofNat ((Qgb F.sn F.bn).getD j (0,0)).1),.int .i64 (.ofNat ((Qgb F.sn F.bn).getD j (0,0)).2)]⟩:=by rw[ptR,Q6b]
 rw[hR];exact h
theorem Qpma {c c':R9z} {w:World} {S:Nat->Value} {B:N9z} {st:St} (hM:MemIs c w S B st) (pa:Int) (un:Bool) (l b:SC) (hok:Qtca st.h l b=true) (hO:fchkV (Qxba st.h B pa un l b)=0) (L:List (Nat×Nat)) (hL:Qgb (Qxba st.h B pa un l b).sn (Qxba st.h B pa un l b).bn=L):
 Calls Try.prog 26 #[(Qxba st.h B pa un l b).val] w (RetR w c' (.tup [.one (.rs 0),.one (.int .i64 0)]) [ptR L]):=by
 have hO:GFun.Ok (Qxba st.h B pa un l b):=hO
 subst hL
 exact Calls.to (Qwla _) rfl (pointsN _ w (Qfca hM hok) hO)
theorem Qvna {c c':R9z} {w:World} {S:Nat->Value} {B:N9z} {st:St} (hM:MemIs c w S B st) (pa:Int) (un:Bool) (l b:SC) (x y:Nat) (hok:Qtca st.h l b=true) (hO:fchkV (Qxba st.h B pa un l b)=0) (hx:decide (x<(Qxba st.h B pa un l b).bn)=true) (hy:decide (y<=(Qxba st.h B pa un l b).sn x)=true) (L:List (Nat×Nat)) (hL:Qgd (Qxba st.h B pa un l b) x y=L):
 Calls Try.prog 28 #[(Qxba st.h B pa un l b).val,.agg #[.int .i64 (.ofNat x),.int .i64 (.ofNat y)]] w (RetR w c' (.tup [.one (.rs 0),.one (.int .i64 0)]) [ptR L]):=by
 have hO:GFun.Ok (Qxba st.h B pa un l b):=hO
 subst hL
 exact Calls.to (Qwla _) rfl (Q12 _ w (Qfca hM hok) hO x y (of_decide_eq_true hx) (of_decide_eq_true hy))
theorem Qema {c c':R9z} {w:World} {S:Nat->Value} {B:N9z} {st:St} (hM:MemIs c w S B st) (pa:Int) (un:Bool) (l b:SC) (x y:Nat) (hok:Qtca st.h l b=true) (hO:fchkV (Qxba st.h B pa un l b)=0) (hx:decide (x<(Qxba st.h B pa un l b).bn)=true) (hy:decide (y<=(Qxba st.h B pa un l b).sn x)=true) (L:List (Nat×Nat)) (hL:Qbna (Qxba st.h B pa un l b) (x,y) (stN (Qxba st.h B pa un l b).sn (Qxba st.h B pa un l b).bn)=L):
 Calls Try.prog 29 #[(Qxba st.h B pa un l b).val,.agg #[.int .i64 (.ofNat x),.int .i64 (.ofNat y)]] w (RetR w c' (.tup [.one (.rs 0),.one (.int .i64 0)]) [ptR L]):=by
 have hO:GFun.Ok (Qxba st.h B pa un l b):=hO
 subst hL
 exact Calls.to (Qwla _) rfl (Qkna _ w (Qfca hM hok) hO x y (of_decide_eq_true hx) (of_decide_eq_true hy))
theorem alive11C (w:World):
 Calls Try.prog 7 #[] w (Ret w (.bool true)):=by
 refine Qaa (args:=[]) (c:=Qra) Try.func7 rfl (Qga _) rfl rfl ?_
 obtain ⟨_,hnd,_,hnt,_,har,_,hcm,_,hmx,_,hmn,ar01,ar12,_,hzpl,_,hzjn,_,hzup,_,hzmi,_,hzdp,hT⟩:=Qca
 subst hnd hnt har hcm hmx hmn hzpl hzjn hzup hzmi hzdp
 repeat' (first
  | (refine gov ?_;(try simp only[ar01,ar12]))
  | refine goa ?_|refine go3 (fun hlt=>?_) (fun hge=>?_)|refine go2 (fun h=>?_) (fun h=>?_)|exact go0|refine goz ?_|refine Qvha ?_ ?_
  | refine Qhha Try.func27 Try.results27 Try.call27 ?_
  | ((with_reducible apply Qaia (hf:=Try.call26));(·intro S B;cbv;try rfl);(·intro wc S B hbc hxc hM;exact Qpma hM 0 false (.sl 2 0 1 1) (.sl 4 0 2 2) (by kernel_rfl) (by kernel_rfl) [(0,0),(0,1),(1,0)] (by kernel_rfl));(·rfl))
  | ((with_reducible apply Qaia (hf:=Try.call28));(·intro S B;cbv;try rfl);(·intro wc S B hbc hxc hM;exact Qvna hM 0 false (.sl 7 0 1 1) (.sl 9 0 2 2) 0 1 (by kernel_rfl) (by kernel_rfl) (by kernel_rfl) (by kernel_rfl) [(0,0),(1,0)] (by kernel_rfl));(·rfl))
  | ((with_reducible apply Qaia (hf:=Try.call29));(·intro S B;cbv;try rfl);(·intro wc S B hbc hxc hM;exact Qema hM 0 false (.sl 12 0 1 1) (.sl 14 0 2 2) 0 0 (by kernel_rfl) (by kernel_rfl) (by kernel_rfl) (by kernel_rfl) [(0,1)] (by kernel_rfl));(·rfl))
  | refine Qhha Try.func30 Try.results30 Try.call30 ?_
  | (with_reducible apply Qqa 6)
  | fail)
 all_goals rfl
end Go.Proofs.Ytemnfncbgalljab
