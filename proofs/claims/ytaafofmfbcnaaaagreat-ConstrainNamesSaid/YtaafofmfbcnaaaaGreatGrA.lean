/- Layer 11 of the program: targets, sorted. No condition. -/
import Derived.Test.YtaafofmfbcnaaaaGreatN6
namespace Go.Proofs.YtaafofmfbcnaaaaGreat
open Go.RowKit
set_option linter.unusedVariables false
set_option linter.unusedSimpArgs false
def intR (L:List Int):ORow:=⟨L.length,1,fun j=>[.int .i64 (L.getD j 0)]⟩
def jmpV (F:GFun) (b:Nat):Value:=.agg #[.int .u8 (F.jk b),.int .u8 (F.jo b).k,.int .i64 (F.jo b).n,.int .i64 (F.jo b).p.l,.bool (F.jo b).p.d,.int .u8 (F.jo b).p.f,.int .i64 (F.jf b),.int .i64 (F.jx b),.int .i64 (F.je b),.slice (F.jA b) (F.jn b) (F.jc b),.int .i64 (F.jd b).l,.bool (F.jd b).d,.int .u8 (F.jd b).f]
theorem leads_none {F:GFun} {b:Nat} (h:F.jk b=3∨F.jk b=5):(F.jump b).leads=[]:=by
 unfold GJump.leads GFun.jump
 rw[if_pos (by rcases h with h|h<;>simp[h])]
theorem leads_two {F:GFun} {b:Nat} (h:F.jk b=2) (h2:F.jx b≠F.je b):(F.jump b).leads=[F.jx b,F.je b]:=by
 unfold GJump.leads GFun.jump
 rw[if_neg (by simp[h]),if_pos (by simp[h];exact fun g=>h2 g.symm)]
theorem leads_one {F:GFun} {b:Nat} (h:¬(F.jk b=3∨F.jk b=5)) (h2:¬(F.jk b=2∧F.jx b≠F.je b)):(F.jump b).leads=[F.jx b]:=by
 unfold GJump.leads GFun.jump
 rw[if_neg (by simpa using h),if_neg (by simp;exact fun g=>Classical.byContradiction fun e=>h2 ⟨g,fun g'=>e g'.symm⟩)]
theorem wGrA_0 {p:Prop} (h:p:=by (first|(cbv;(try simp only[true_and,and_true]);(try ((repeat' apply And.intro)<;>(first|trivial|rfl|exact RowLe.rfl' _|decide|(rw[wrap_nat har _ (by omega)])|((exact ⟨rfl⟩))|fail)));done)|fail)):Pf p:=⟨h⟩
theorem wGrA_1 {p:Prop} (h:p:=by (first|(cbv;(try simp only[true_and,and_true]);(try ((repeat' apply And.intro)<;>(first|trivial|rfl|exact RowLe.rfl' _|decide|(rw[wrap_nat har _ (by omega)])|((refine ⟨rfl,Nat.le_of_ble_eq_true rfl,Nat.le_of_ble_eq_true rfl,Nat.le_of_ble_eq_true rfl,rfl,rfl,fun j hj=>?_⟩;have hj2:j=0∨j=1:=(by have hj':j<2:=hj;omega);rcases hj2 with rfl|rfl<;>exact ⟨⟨rfl,rfl⟩,trivial⟩))|fail)));done)|fail)):Pf p:=⟨h⟩
theorem wGrA_2 {p:Prop} (h:p:=by (first|(cbv;(try simp only[true_and,and_true]);(try ((repeat' apply And.intro)<;>(first|trivial|rfl|exact RowLe.rfl' _|decide|(rw[wrap_nat har _ (by omega)])|((refine ⟨rfl,Nat.le_of_ble_eq_true rfl,Nat.le_of_ble_eq_true rfl,Nat.le_of_ble_eq_true rfl,rfl,rfl,fun j hj=>?_⟩;have hj2:j=0:=(by have hj':j<1:=hj;omega);subst hj2;exact ⟨⟨rfl,rfl⟩,trivial⟩))|fail)));done)|fail)):Pf p:=⟨h⟩
set_option maxRecDepth 100000 in
set_option maxHeartbeats 4000000 in
theorem targetsC (F:GFun) (w:World) (hF:F.At w) (b:Nat) (hok:(F.jump b).ok=true):
 Calls Tryz.prog 74 #[jmpV F b] w (RetR w (funX F) (.tup [.one (.rs 0),.one (.int .i64 0)]) [intR (F.jump b).leads]):=by
 have hXk (wc:World) (hk:KB ⟨w,[]⟩ wc) (b:Nat):=argX (hF.later hk).ok b
 have h1 (wc:World) (hk:KB ⟨w,[]⟩ wc):=jumpChk (F.jk b) (F.jf b) (F.jx b) (F.je b) (F.jo b).k (F.jo b).n (F.jo b).p.l (F.jo b).p.f (F.jd b).l (F.jd b).f (F.jo b).p.d (F.jd b).d (F.jA b) (F.jn b) (F.jc b) (F.ja b) wc (by unfold maxLen;exact hF.j b) (hXk wc hk b)
 have e:(GJump.mk (F.jk b) ⟨(F.jo b).k,(F.jo b).n,⟨(F.jo b).p.l,(F.jo b).p.d,(F.jo b).p.f⟩⟩ (F.jf b) (F.jx b) (F.je b) (argL (F.jn b) (F.ja b)) ⟨(F.jd b).l,(F.jd b).d,(F.jd b).f⟩).ok=true:=hok
 rw[e] at h1
 clear e hok hXk
 by_cases h35:F.jk b=3∨F.jk b=5
 · rw[leads_none h35]
   obtain ⟨pa,un,lA,ln,lc,lk,lt,bA,bn,bc,sA,sn,sc,s,jA,jn,jc,ja,jk,jo,jf,jx,je,jd⟩:=F
   obtain ⟨hX,hl,hb,hs,hj⟩:=hF
   simp only at hl hb hs hj
   simp only at h35 h1
   refine go_start (args:=[.pt (.agg [.int .u8 (jk b),.int .u8 (jo b).k,.int .i64 (jo b).n,.int .i64 (jo b).p.l,.bool (jo b).p.d,.int .u8 (jo b).p.f,.int .i64 (jf b),.int .i64 (jx b),.int .i64 (je b),.xs 3 b,.int .i64 (jd b).l,.bool (jd b).d,.int .u8 (jd b).f])]) (c:=(funX ⟨pa,un,lA,ln,lc,lk,lt,bA,bn,bc,sA,sn,sc,s,jA,jn,jc,ja,jk,jo,jf,jx,je,jd⟩)) Tryz.func74 rfl hX rfl rfl ?_
   obtain ⟨nd,hnd,nt,hnt,ar,har,cm,hcm,mx,hmx,mn,hmn,ar01,ar12,zpl,hzpl,zjn,hzjn,zup,hzup,zmi,hzmi,zdp,hzdp,hT⟩:=t0_all
   have q1:decide (jk b=3)=true∨decide (jk b=5)=true:=h35.imp decide_eq_true decide_eq_true
   repeat' (first
    | refine go1 ?_|refine gobn ?_|refine go2 (fun h=>?_) (fun h=>?_)
    | ((with_reducible apply go_ret_rowsP hT);(·(cbv;try rfl));(·(cbv;try rfl));(·exact wGrA_0);(·exact wGrA_0);(·rfl))
    | ((with_reducible apply go_call (f:=105) (hf:=Tryz.call105));(·(cbv;try rfl));(·intro wc hbc hxc;exact h1 wc hbc))
    | fail)
   all_goals (exfalso;rcases q1 with q|q<;>simp_all)
 by_cases h2:F.jk b=2∧F.jx b≠F.je b
 · rw[leads_two h2.1 h2.2]
   obtain ⟨pa,un,lA,ln,lc,lk,lt,bA,bn,bc,sA,sn,sc,s,jA,jn,jc,ja,jk,jo,jf,jx,je,jd⟩:=F
   obtain ⟨hX,hl,hb,hs,hj⟩:=hF
   simp only at hl hb hs hj
   simp only at h35 h2 h1
   refine go_start (args:=[.pt (.agg [.int .u8 (jk b),.int .u8 (jo b).k,.int .i64 (jo b).n,.int .i64 (jo b).p.l,.bool (jo b).p.d,.int .u8 (jo b).p.f,.int .i64 (jf b),.int .i64 (jx b),.int .i64 (je b),.xs 3 b,.int .i64 (jd b).l,.bool (jd b).d,.int .u8 (jd b).f])]) (c:=(funX ⟨pa,un,lA,ln,lc,lk,lt,bA,bn,bc,sA,sn,sc,s,jA,jn,jc,ja,jk,jo,jf,jx,je,jd⟩)) Tryz.func74 rfl hX rfl rfl ?_
   obtain ⟨nd,hnd,nt,hnt,ar,har,cm,hcm,mx,hmx,mn,hmn,ar01,ar12,zpl,hzpl,zjn,hzjn,zup,hzup,zmi,hzmi,zdp,hzdp,hT⟩:=t0_all
   have q1:decide (jk b=3)=false:=decide_eq_false (by omega)
   have q2:decide (jk b=5)=false:=decide_eq_false (by omega)
   have q3:decide (jk b=2)=true:=decide_eq_true h2.1
   have q4:decide (jx b=je b)=false:=decide_eq_false h2.2
   repeat' (first
    | refine go1 ?_|refine gobt ?_|refine gobn ?_
    | ((with_reducible apply go_ret_rowsP hT);(·(cbv;try rfl));(·(cbv;try rfl));(·exact wGrA_1);(·exact wGrA_1);(·rfl))
    | ((with_reducible apply go_call (f:=105) (hf:=Tryz.call105));(·(cbv;try rfl));(·intro wc hbc hxc;exact h1 wc hbc))
    | fail)
 · rw[leads_one h35 h2]
   obtain ⟨pa,un,lA,ln,lc,lk,lt,bA,bn,bc,sA,sn,sc,s,jA,jn,jc,ja,jk,jo,jf,jx,je,jd⟩:=F
   obtain ⟨hX,hl,hb,hs,hj⟩:=hF
   simp only at hl hb hs hj
   simp only at h35 h2 h1
   refine go_start (args:=[.pt (.agg [.int .u8 (jk b),.int .u8 (jo b).k,.int .i64 (jo b).n,.int .i64 (jo b).p.l,.bool (jo b).p.d,.int .u8 (jo b).p.f,.int .i64 (jf b),.int .i64 (jx b),.int .i64 (je b),.xs 3 b,.int .i64 (jd b).l,.bool (jd b).d,.int .u8 (jd b).f])]) (c:=(funX ⟨pa,un,lA,ln,lc,lk,lt,bA,bn,bc,sA,sn,sc,s,jA,jn,jc,ja,jk,jo,jf,jx,je,jd⟩)) Tryz.func74 rfl hX rfl rfl ?_
   obtain ⟨nd,hnd,nt,hnt,ar,har,cm,hcm,mx,hmx,mn,hmn,ar01,ar12,zpl,hzpl,zjn,hzjn,zup,hzup,zmi,hzmi,zdp,hzdp,hT⟩:=t0_all
   have q1:decide (jk b=3)=false:=decide_eq_false (by omega)
   have q2:decide (jk b=5)=false:=decide_eq_false (by omega)
   repeat' (first
    | refine go1 ?_|refine gobt ?_|refine gobn ?_|refine go2 (fun h=>?_) (fun h=>?_)
    | ((with_reducible apply go_ret_rowsP hT);(·(cbv;try rfl));(·(cbv;try rfl));(·exact wGrA_2);(·exact wGrA_2);(·rfl))
    | ((with_reducible apply go_call (f:=105) (hf:=Tryz.call105));(·(cbv;try rfl));(·intro wc hbc hxc;exact h1 wc hbc))
    | fail)
   all_goals (exfalso;have q3:=not_and.1 h2 (of_decide_eq_true ‹_›);exact q3 (of_decide_eq_false ‹_›))
end Go.Proofs.YtaafofmfbcnaaaaGreat
