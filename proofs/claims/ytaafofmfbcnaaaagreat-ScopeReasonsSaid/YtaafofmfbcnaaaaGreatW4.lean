/- Texts joined: IrA LwB LwC. No condition. -/
import Derived.Test.YtaafofmfbcnaaaaGreatPtA
import Derived.Test.YtaafofmfbcnaaaaGreatI1
import Derived.Test.YtaafofmfbcnaaaaGreatLvP
/- Layer 15 of the reference: the points behind a point; which points are reached. No condition. -/
namespace Go.Proofs.YtaafofmfbcnaaaaGreat
set_option maxRecDepth 100000
open Go.RowKit
set_option linter.unusedVariables false
set_option linter.unusedSimpArgs false
theorem wIrA_0 {p:Prop} (h:p:=by (first|(cbv;(try simp only[true_and,and_true]);(try ((repeat' apply And.intro)<;>(first|trivial|rfl|exact RowLe.rfl' _|decide|(rw[wrap_nat har _ (by omega)];done)|((exact ⟨rfl⟩))|fail)));done)|fail)):Pf p:=⟨h⟩
theorem wIrA_1 {p:Prop} (h:p:=by (first|(cbv;(try simp only[true_and,and_true]);(try ((repeat' apply And.intro)<;>(first|trivial|rfl|exact RowLe.rfl' _|decide|(rw[wrap_nat har _ (by omega)];done)|((refine ⟨rfl,Nat.le_of_ble_eq_true rfl,Nat.le_of_ble_eq_true rfl,Nat.le_of_ble_eq_true rfl,rfl,rfl,fun j hj=>?_⟩;have hj2:j=0∨j=1:=(by have hj':j<2:=hj;omega);rcases hj2 with rfl|rfl<;>exact ⟨⟨rfl,rfl⟩,trivial⟩))|fail)));done)|fail)):Pf p:=⟨h⟩
theorem wIrA_2 {p:Prop} (h:p:=by (first|(cbv;(try simp only[true_and,and_true]);(try ((repeat' apply And.intro)<;>(first|trivial|rfl|exact RowLe.rfl' _|decide|(rw[wrap_nat har _ (by omega)];done)|((refine ⟨rfl,Nat.le_of_ble_eq_true rfl,Nat.le_of_ble_eq_true rfl,Nat.le_of_ble_eq_true rfl,rfl,rfl,fun j hj=>?_⟩;have hj2:j=0:=(by have hj':j<1:=hj;omega);subst hj2;exact ⟨⟨rfl,rfl⟩,trivial⟩))|fail)));done)|fail)):Pf p:=⟨h⟩
set_option maxHeartbeats 4000000 in
theorem rLeadsC (F:GFun) (w:World) (hF:F.At w) (b:Nat):
 Calls Tryz.prog 93 #[jmpV F b] w (RetR w (funX F) (.pt (.one (.rs 0))) [intR (F.jump b).leads]):=by
 by_cases h35:F.jk b=3∨F.jk b=5
 · rw[leads_none h35]
   obtain ⟨pa,un,lA,ln,lc,lk,lt,bA,bn,bc,sA,sn,sc,s,jA,jn,jc,ja,jk,jo,jf,jx,je,jd⟩:=F
   obtain ⟨hX,hl,hb,hs,hj⟩:=hF
   simp only at hl hb hs hj
   simp only at h35
   refine go_start (args:=[.pt (.agg [.int .u8 (jk b),.int .u8 (jo b).k,.int .i64 (jo b).n,.int .i64 (jo b).p.l,.bool (jo b).p.d,.int .u8 (jo b).p.f,.int .i64 (jf b),.int .i64 (jx b),.int .i64 (je b),.xs 3 b,.int .i64 (jd b).l,.bool (jd b).d,.int .u8 (jd b).f])]) (c:=(funX ⟨pa,un,lA,ln,lc,lk,lt,bA,bn,bc,sA,sn,sc,s,jA,jn,jc,ja,jk,jo,jf,jx,je,jd⟩)) Tryz.func93 rfl hX rfl rfl ?_
   obtain ⟨nd,hnd,nt,hnt,ar,har,cm,hcm,mx,hmx,mn,hmn,ar01,ar12,zpl,hzpl,zjn,hzjn,zup,hzup,zmi,hzmi,zdp,hzdp,hT⟩:=t0_all
   have q1:decide (jk b=3)=true∨decide (jk b=5)=true:=h35.imp decide_eq_true decide_eq_true
   repeat' (first
    | refine go1 ?_|refine gobt ?_|refine gobn ?_|refine go3 (fun hlt=>?_) (fun hge=>?_)|refine go2 (fun h=>?_) (fun h=>?_)|exact go0|refine god ?_|refine gof ?_|refine gob ?_|(with_reducible refine fork_cons ?_ ?_)
    | ((first|with_reducible apply go_fin_rowsP hT|with_reducible apply go_ret_rowsP hT);(·(cbv;try rfl));(·(cbv;try rfl));(·exact wIrA_0);(·exact wIrA_0);(·rfl))
    | fail)
   all_goals (exfalso;rcases q1 with q|q<;>simp_all)
 by_cases h2:F.jk b=2∧F.jx b≠F.je b
 · rw[leads_two h2.1 h2.2]
   obtain ⟨pa,un,lA,ln,lc,lk,lt,bA,bn,bc,sA,sn,sc,s,jA,jn,jc,ja,jk,jo,jf,jx,je,jd⟩:=F
   obtain ⟨hX,hl,hb,hs,hj⟩:=hF
   simp only at hl hb hs hj
   simp only at h35 h2
   refine go_start (args:=[.pt (.agg [.int .u8 (jk b),.int .u8 (jo b).k,.int .i64 (jo b).n,.int .i64 (jo b).p.l,.bool (jo b).p.d,.int .u8 (jo b).p.f,.int .i64 (jf b),.int .i64 (jx b),.int .i64 (je b),.xs 3 b,.int .i64 (jd b).l,.bool (jd b).d,.int .u8 (jd b).f])]) (c:=(funX ⟨pa,un,lA,ln,lc,lk,lt,bA,bn,bc,sA,sn,sc,s,jA,jn,jc,ja,jk,jo,jf,jx,je,jd⟩)) Tryz.func93 rfl hX rfl rfl ?_
   obtain ⟨nd,hnd,nt,hnt,ar,har,cm,hcm,mx,hmx,mn,hmn,ar01,ar12,zpl,hzpl,zjn,hzjn,zup,hzup,zmi,hzmi,zdp,hzdp,hT⟩:=t0_all
   have q1:decide (jk b=3)=false:=decide_eq_false (by omega)
   have q2:decide (jk b=5)=false:=decide_eq_false (by omega)
   have q3:decide (jk b=2)=true:=decide_eq_true h2.1
   have q4:decide (je b=jx b)=false:=decide_eq_false (fun e=>h2.2 e.symm)
   repeat' (first
    | refine go1 ?_|refine gobt ?_|refine gobn ?_|refine go3 (fun hlt=>?_) (fun hge=>?_)|refine go2 (fun h=>?_) (fun h=>?_)|exact go0|refine god ?_|refine gof ?_|refine gob ?_|(with_reducible refine fork_cons ?_ ?_)
    | ((first|with_reducible apply go_fin_rowsP hT|with_reducible apply go_ret_rowsP hT);(·(cbv;try rfl));(·(cbv;try rfl));(·exact wIrA_1);(·exact wIrA_1);(·rfl))
    | fail)
 · rw[leads_one h35 h2]
   obtain ⟨pa,un,lA,ln,lc,lk,lt,bA,bn,bc,sA,sn,sc,s,jA,jn,jc,ja,jk,jo,jf,jx,je,jd⟩:=F
   obtain ⟨hX,hl,hb,hs,hj⟩:=hF
   simp only at hl hb hs hj
   simp only at h35 h2
   refine go_start (args:=[.pt (.agg [.int .u8 (jk b),.int .u8 (jo b).k,.int .i64 (jo b).n,.int .i64 (jo b).p.l,.bool (jo b).p.d,.int .u8 (jo b).p.f,.int .i64 (jf b),.int .i64 (jx b),.int .i64 (je b),.xs 3 b,.int .i64 (jd b).l,.bool (jd b).d,.int .u8 (jd b).f])]) (c:=(funX ⟨pa,un,lA,ln,lc,lk,lt,bA,bn,bc,sA,sn,sc,s,jA,jn,jc,ja,jk,jo,jf,jx,je,jd⟩)) Tryz.func93 rfl hX rfl rfl ?_
   obtain ⟨nd,hnd,nt,hnt,ar,har,cm,hcm,mx,hmx,mn,hmn,ar01,ar12,zpl,hzpl,zjn,hzjn,zup,hzup,zmi,hzmi,zdp,hzdp,hT⟩:=t0_all
   have q1:decide (jk b=3)=false:=decide_eq_false (by omega)
   have q2:decide (jk b=5)=false:=decide_eq_false (by omega)
   repeat' (first
    | refine go1 ?_|refine gobt ?_|refine gobn ?_|refine go3 (fun hlt=>?_) (fun hge=>?_)|refine go2 (fun h=>?_) (fun h=>?_)|exact go0|refine god ?_|refine gof ?_|refine gob ?_|(with_reducible refine fork_cons ?_ ?_)
    | ((first|with_reducible apply go_fin_rowsP hT|with_reducible apply go_ret_rowsP hT);(·(cbv;try rfl));(·(cbv;try rfl));(·exact wIrA_2);(·exact wIrA_2);(·rfl))
    | fail)
   all_goals (exfalso;have q3:=not_and.1 h2 (of_decide_eq_true ‹_›);exact q3 (fun e=>of_decide_eq_false (by assumption:decide (je b=jx b)=false) e.symm))
def rsucc (F:GFun) (n:Nat):List Nat:=if piN F n<F.sn (pbN F n) then [n+1] else (leadsN F (pbN F n)).map (stN F.sn)
theorem rsucc_mem {F:GFun} {a:Nat} (ha:a<stN F.sn F.bn) {n:Nat}:n∈rsucc F a↔n∈succN F a:=by
 obtain ⟨h1,h2,h3⟩:=num_pt ha
 unfold rsucc succN nextP
 split
 · simp only[List.map_cons,List.map_nil,List.mem_singleton]
   constructor
   · intro h;rw[h];omega
   · intro h;rw[h];omega
 · simp only[List.map_map,List.mem_map,leadsN]
   constructor
   · rintro ⟨k,hk,rfl⟩
     exact ⟨k,mem_sort2.2 hk,rfl⟩
   · rintro ⟨k,hk,rfl⟩
     exact ⟨k,mem_sort2.1 hk,rfl⟩
theorem leadsN_len (F:GFun) (b:Nat):(leadsN F b).length≤2:=by
 simp only[leadsN,List.length_map]
 unfold GJump.leads
 split
 · simp
 · split<;>simp
theorem rsucc_len (F:GFun) (a:Nat):(rsucc F a).length≤2:=by
 unfold rsucc
 split
 · simp
 · rw[List.length_map];exact leadsN_len F _
theorem wIrA_3 {p:Prop} (h:p:=by (first|(cbv;(try simp only[true_and,and_true]);(try ((repeat' apply And.intro)<;>(first|trivial|rfl|exact RowLe.rfl' _|decide|(rw[wrap_nat har _ (by omega)];done)|((rw[hR];refine ⟨rfl,Nat.le_of_ble_eq_true rfl,Nat.le_of_ble_eq_true rfl,Nat.le_of_ble_eq_true rfl,rfl,rfl,fun j hj=>?_⟩;have hj2:j=0:=(by have hj':j<1:=hj;omega);subst hj2;exact ⟨⟨rfl,rfl⟩,trivial⟩))|fail)));done)|fail)):Pf p:=⟨h⟩
theorem wIrA_4 {p:Prop} (h:p:=by (first|(cbv;(try simp only[true_and,and_true]);(try ((repeat' apply And.intro)<;>(first|trivial|rfl|exact RowLe.rfl' _|decide|(rw[wrap_nat har _ (by omega)];done)|((exact rowLe_of rfl (fun j hj=>absurd hj (Nat.not_lt_zero _))))|((refine rowLe_snoc hzpl hzjn rfl (fun j hj=>leCL_rfl _) ⟨⟨rfl,?_⟩,trivial⟩;rw[hr1 k ‹_›]))|((have haN:k=m:=(by omega);subst haN;exact RowLe.rfl' _))|fail)));done)|fail)):Pf p:=⟨h⟩
set_option maxHeartbeats 8000000 in
theorem rNextC (F:GFun) (w:World) (hF:F.At w) (hO:F.Ok) (n:Nat) (hn:n<stN F.sn F.bn):
 Calls Tryz.prog 56 #[F.val,.int .i64 (.ofNat n)] w (RetR w (funX F) (.pt (.one (.rs 0))) [natR (rsucc F n)]):=by
 have h1 (wc:World) (hk:KB ⟨w,[]⟩ wc):=pointNC F wc (hF.later hk) hO.small n hn
 have h20 (wc:World) (hk:KB ⟨w,[]⟩ wc):=rLeadsC F wc (hF.later hk) (pbN F n)
 have h3 (wc:World) (hk:KB ⟨w,[]⟩ wc):=startsC F wc (hF.later hk) hO.small.s hO.small.b
 obtain ⟨hpb,hpi,hnn⟩:=num_pt hn
 have hN9:=hO.pts
 rw[intR_leads hO hpb] at h20
 by_cases g:piN F n<F.sn (pbN F n)
 · have e:rsucc F n=[n+1]:=by unfold rsucc;rw[if_pos g]
   rw[e]
   obtain ⟨R,hR⟩:∃R,R=natR [n+1]:=⟨_,rfl⟩
   rw[←hR]
   obtain ⟨b,hb'⟩:∃b,b=pbN F n:=⟨_,rfl⟩
   obtain ⟨i,hi'⟩:∃i,i=piN F n:=⟨_,rfl⟩
   rw[←hb',←hi'] at h1 g
   rw[←hb'] at hpb
   have hn9:n<600:=by omega
   clear h20 h3 e hb' hi' hnn hpi hn hO
   obtain ⟨pa,un,lA,ln,lc,lk,lt,bA,bn,bc,sA,sn,sc,s,jA,jn,jc,ja,jk,jo,jf,jx,je,jd⟩:=F
   obtain ⟨hX,hl,hb,hs,hj⟩:=hF
   simp only at hl hb hs hj
   simp only at h1 hpb g
   refine go_start (args:=[.pt (.agg (GFun.dat ⟨pa,un,lA,ln,lc,lk,lt,bA,bn,bc,sA,sn,sc,s,jA,jn,jc,ja,jk,jo,jf,jx,je,jd⟩)),.pt (.one (.int .i64 (.ofNat n)))]) (c:=(funX ⟨pa,un,lA,ln,lc,lk,lt,bA,bn,bc,sA,sn,sc,s,jA,jn,jc,ja,jk,jo,jf,jx,je,jd⟩)) Tryz.func56 rfl hX rfl rfl ?_
   obtain ⟨nd,hnd,nt,hnt,ar,har,cm,hcm,mx,hmx,mn,hmn,ar01,ar12,zpl,hzpl,zjn,hzjn,zup,hzup,zmi,hzmi,zdp,hzdp,hT⟩:=t0_all
   have hq:cm .lss (.ofNat i) (.ofNat (sn b))=true:=by rw[hcm];exact decide_eq_true (Int.ofNat_lt.2 g)
   repeat' (first
    | refine go1 ?_|refine gobt ?_|refine gobn ?_|refine go3 (fun hlt=>?_) (fun hge=>?_)|refine go2 (fun h=>?_) (fun h=>?_)|exact go0|refine god ?_|refine gof ?_|refine gob ?_|(with_reducible refine fork_cons ?_ ?_)
    | ((first|with_reducible apply go_fin_rowsP hT|with_reducible apply go_ret_rowsP hT);(·(cbv;try rfl));(·(cbv;try rfl));(·exact wIrA_3);(·exact wIrA_3);(·rfl))
    | ((with_reducible apply go_call (f:=53) (hf:=Tryz.call53));(·(cbv;try rfl));(·intro wc hbc hxc;exact h1 wc hbc))
    | ((with_reducible apply go_callq (f:=53) (hf:=Tryz.call53));(·(cbv;try rfl));(·intro wc hbc hxc;exact h1 wc hbc))
    | (((with_reducible apply go_need);(·exact Int.natCast_nonneg _);(·exact Int.ofNat_lt.2 ‹_›)))
    | ((rw[wrap_nat har _ (show n≤9223372036854775806 by omega)]))
    | fail)
   all_goals trace_state
 · have e:rsucc F n=(leadsN F (pbN F n)).map (stN F.sn):=by unfold rsucc;rw[if_neg g]
   rw[e]
   have hlt:=leadsN_lt hO hpb
   have hl2:=leadsN_len F (pbN F n)
   obtain ⟨b,hb'⟩:∃b,b=pbN F n:=⟨_,rfl⟩
   obtain ⟨i,hi'⟩:∃i,i=piN F n:=⟨_,rfl⟩
   obtain ⟨LL,hLL⟩:∃L,L=leadsN F b:=⟨_,rfl⟩
   rw[←hb'] at hlt hl2 h20⊢
   rw[←hb',←hi'] at h1 g
   rw[←hb'] at hpb
   rw[←hLL] at hlt hl2 h20⊢
   obtain ⟨m,hm⟩:∃m,m=LL.length:=⟨_,rfl⟩
   obtain ⟨ld,hld⟩:∃f:Nat→Nat,f=fun j=>LL.getD j 0:=⟨_,rfl⟩
   obtain ⟨st,hst⟩:∃f:Nat→Nat,f=stN F.sn:=⟨_,rfl⟩
   obtain ⟨bm,hbm⟩:∃m,m=F.bn+1:=⟨_,rfl⟩
   have hR:natR (LL.map (stN F.sn))=⟨m,1,fun j=>[.int .i64 (.ofNat (if j<m then st (ld j) else 0))]⟩:=by
    rw[natR,List.length_map,hm]
    congr 1
    funext j
    by_cases hj:j<LL.length
    · rw[if_pos hj,hst,hld];simp[List.getD,List.getElem?_map,List.getElem?_eq_getElem hj]
    · rw[if_neg hj];simp[List.getD,List.getElem?_eq_none (show LL.length≤j by omega)]
   rw[hR]
   have h2 (wc:World) (hk:KB ⟨w,[]⟩ wc):Calls Tryz.prog 93 #[jmpV F b] wc (RetR wc (funX F) (.pt (.one (.rs 0))) [⟨m,1,fun j=>[.int .i64 (.ofNat (ld j))]⟩]):=by
    have:=h20 wc hk
    rw[hm,hld];exact this
   have h3 (wc:World) (hk:KB ⟨w,[]⟩ wc):Calls Tryz.prog 91 #[F.val] wc (RetR wc (funX F) (.pt (.one (.rs 0))) [⟨bm,1,fun j=>[.int .i64 (.ofNat (st j))]⟩]):=by
    have:=h3 wc hk
    rw[hbm,hst];exact this
   have hlb:∀j,j<m→ld j<bm:=fun j hj=>by
    rw[hm] at hj
    have:=hlt (ld j) (by rw[hld];simp only[List.getD,List.getElem?_eq_getElem hj,Option.getD_some];exact List.getElem_mem hj)
    omega
   have hm2:m≤2:=by omega
   have hbp:b<F.bn:=hpb
   obtain ⟨rr,hrr⟩:∃f:Nat→Nat,f=fun j=>if j<m then st (ld j) else 0:=⟨_,rfl⟩
   have hR2:(fun j=>[SC.int .i64 (.ofNat (if j<m then st (ld j) else 0))])=fun j=>[SC.int .i64 (.ofNat (rr j))]:=by rw[hrr]
   rw[hR2]
   have hr1:∀j,j<m→rr j=st (ld j):=fun j hj=>by rw[hrr];simp only[if_pos hj]
   clear h20 e hb' hi' hnn hpi hn hO hLL hlt hl2 hm hld hst hR hR2 hrr hbm hpb
   obtain ⟨pa,un,lA,ln,lc,lk,lt,bA,bn,bc,sA,sn,sc,s,jA,jn,jc,ja,jk,jo,jf,jx,je,jd⟩:=F
   obtain ⟨hX,hl,hb,hs,hj⟩:=hF
   simp only at hl hb hs hj
   simp only at h1 h2 h3 hbp g
   refine go_start (args:=[.pt (.agg (GFun.dat ⟨pa,un,lA,ln,lc,lk,lt,bA,bn,bc,sA,sn,sc,s,jA,jn,jc,ja,jk,jo,jf,jx,je,jd⟩)),.pt (.one (.int .i64 (.ofNat n)))]) (c:=(funX ⟨pa,un,lA,ln,lc,lk,lt,bA,bn,bc,sA,sn,sc,s,jA,jn,jc,ja,jk,jo,jf,jx,je,jd⟩)) Tryz.func56 rfl hX rfl rfl ?_
   obtain ⟨nd,hnd,nt,hnt,ar,har,cm,hcm,mx,hmx,mn,hmn,ar01,ar12,zpl,hzpl,zjn,hzjn,zup,hzup,zmi,hzmi,zdp,hzdp,hT⟩:=t0_all
   have hq:cm .lss (.ofNat i) (.ofNat (sn b))=false:=by rw[hcm];exact decide_eq_false (fun h=>g (Int.ofNat_lt.1 h))
   repeat' (first
    | refine go1 ?_|refine gobt ?_|refine gobn ?_|refine go3 (fun hlt=>?_) (fun hge=>?_)|refine go2 (fun h=>?_) (fun h=>?_)|exact go0
    | ((with_reducible apply go_drawQ [91]);(·rfl);(·rfl);(·kernel_rfl);(·kernel_rfl))
    | refine gode ?_|refine gof ?_|(with_reducible refine fork_cons ?_ ?_)
    | ((first|with_reducible apply go_fin_rowsP hT|with_reducible apply go_ret_rowsP hT);(·(cbv;try rfl));(·(cbv;try rfl));(·exact wIrA_4);(·exact wIrA_4);(·rfl))
    | ((with_reducible refine go_ob ?_ ?_);(·first|trivial|(refine ⟨trivial,?_⟩;omega)|(rw[hzpl];refine ⟨trivial,?_⟩;show _+_≤1073741824;omega)|(rw[hzpl];show _+_≤1073741824;omega)|((rw[hzpl];show k+1≤1073741824;omega))))
    | ((with_reducible apply go_call (f:=53) (hf:=Tryz.call53));(·(cbv;try rfl));(·intro wc hbc hxc;exact h1 wc hbc))
    | ((with_reducible apply go_callq (f:=53) (hf:=Tryz.call53));(·(cbv;try rfl));(·intro wc hbc hxc;exact h1 wc hbc))
    | ((with_reducible apply go_callR (f:=93) (hf:=Tryz.call93));(·intro S;cbv;try rfl);(·intro wc S hbc hxc hrc;exact h2 wc hbc);(·rfl))
    | ((with_reducible apply go_callR (f:=91) (hf:=Tryz.call91));(·intro S;cbv;try rfl);(·intro wc S hbc hxc hrc;exact h3 wc hbc);(·rfl))
    | ((with_reducible apply go_row 6 1);(·(cbv;try rfl)))
    | ((with_reducible refine go_loopk (σ:={k:Nat // k≤m}) [34,35,36,37,38,39,40,41,42,43,44,45,46,47,48,49,50] (fun x=>[(8,.pt (.one (.int .i64 (.ofNat x.1))))]) (fun x=>[]) (fun x=>[(1,⟨x.1,1,fun j=>[.int .i64 (.ofNat (rr j))]⟩)]) (fun x=>m - x.1) ⟨0,by omega⟩ ?_ ?_ ?_ ?_);(·exact le_mkP wIrA_4 wIrA_4 wIrA_4 wIrA_4);(·(cbv;try rfl));(·simp);(rintro ⟨k,hk⟩ mm hmm))
    | ((with_reducible refine go_stop (⟨k+1,by omega⟩:{k:Nat // k≤m}) ?_ ?_ ?_ ?_);(·exact Nat.lt_of_lt_of_eq (show m - (k+1)<m - k from by omega) (Eq.symm ‹_›));(·exact le_mkP wIrA_4 wIrA_4 wIrA_4 wIrA_4);(·(cbv;try rfl));(·simp))
    | (((with_reducible apply go_need);(·exact Int.natCast_nonneg _);(·exact Int.ofNat_lt.2 (hlb k ‹_›))))
    | (((with_reducible apply go_need);(·exact Int.natCast_nonneg _);(·exact Int.ofNat_lt.2 ‹_›)))
    | (fail)
    | fail)
   all_goals trace_state
end Go.Proofs.YtaafofmfbcnaaaaGreat
/- Layer 16 of the reference: what a point sets. No condition. -/
namespace Go.Proofs.YtaafofmfbcnaaaaGreat
open Go.RowKit
set_option linter.unusedVariables false
set_option linter.unusedSimpArgs false
theorem li_us {F:GFun} (hO:F.Ok) {a l:Nat} (ha:a<stN F.sn F.bn):(liveG F).liB l a=(((succN F a).any fun q=>(liveG F).liB l q)&&!decide (Int.ofNat l=smN F a)||uB F (pbN F a) (piN F a) l):=
 LiveG.li_eq (G:=liveG F) (fun n hn q hq=>succN_lt hO hn q hq) ha
end Go.Proofs.YtaafofmfbcnaaaaGreat
/- LivelyLeast, plain: a sweep downward over the points, round by round. No condition. -/
namespace Go.Proofs.YtaafofmfbcnaaaaGreat
open Go.RowKit
set_option linter.unusedVariables false
set_option linter.unusedSimpArgs false
namespace DnG
abbrev DS:=(Nat→Bool)×Bool
variable (rs:Nat→List Nat) (st:Nat→Bool)
def step (x:DS) (n:Nat):DS:=if (x.1 n||st n)=true then x else (fun j=>if j=n then (rs n).any x.1 else x.1 j,x.2||(rs n).any x.1)
def dn (R:Nat→Bool) (N:Nat):Nat→DS
 | 0=>(R,false)
 | k+1=>step rs st (dn R N k) (N - 1 - k)
def W (R:Nat→Bool) (N t:Nat):DS:=dn rs st R N (N - t)
end DnG
end Go.Proofs.YtaafofmfbcnaaaaGreat
